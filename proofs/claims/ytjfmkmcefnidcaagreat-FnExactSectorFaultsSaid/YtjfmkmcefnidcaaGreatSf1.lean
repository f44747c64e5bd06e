/- Contracts: places in a terrain, the radio of a sector; the faults of a sector for itself, as plain laws. Conditions: bounded sizes. -/
import Derived.Test.YtjfmkmcefnidcaaGreatPl19
import Derived.Test.YtjfmkmcefnidcaaGreatFaA
namespace Go.Proofs.YtjfmkmcefnidcaaGreat
set_option maxHeartbeats 8000000
set_option maxRecDepth 100000
open Go.RowKit
set_option linter.unusedVariables false
set_option linter.unusedSimpArgs false
def inTerr (t:DTerrain) (q:DPoint):Bool:=inB q.x 0 ((t.width-1)*t.step)&&inB q.y 0 ((t.height-1)*t.step)
def radN (p:DPlan) (x:DSector):DRadio:=gRadio p.network.radios (idxRadio p.network.radios x.radio).toNat
def antN (p:DPlan) (x:DSector):DAntenna:=gAntenna p.network.antennas (idxAntenna p.network.antennas x.antenna).toNat
def licN (p:DPlan) (x:DSector):DLicence:=gLicence p.licences (licIdx p x).toNat
def placeF (p:DPlan) (x:DSector):List DFault:=if inTerr p.terrain (siteN p x).place=true then [] else [⟨1,x.name,x.site⟩]
def powB (p:DPlan) (x:DSector):Bool:=decide ((licN p x).power<(radN p x).power-(radN p x).feeder+(antN p x).gain)
def restF (p:DPlan) (x:DSector):List DFault :=
 if x.channel<0 then [⟨2,x.name,⟨#[]⟩⟩]
 else if hasB p x=true then (if 0≤licIdx p x then (if powB p x=true then [⟨5,x.name,(licN p x).id⟩] else []) else [⟨4,x.name,(siteN p x).holder⟩])
 else [⟨3,x.name,x.band⟩]
def ownF (p:DPlan) (x:DSector):List DFault:=placeF p x++restF p x
def ownR (p:DPlan) (nm:ByteArray):List DFault × Int:=if (codeP p nm).2=0 then (ownF p (secN p nm),0) else ([],(codeP p nm).2)
theorem placeF_len (p:DPlan) (x:DSector):(placeF p x).length≤1:=by unfold placeF;split<;>simp
theorem restF_len (p:DPlan) (x:DSector):(restF p x).length≤1:=by
 unfold restF
 repeat' split
 all_goals simp
theorem siteN_name {p:DPlan} {x:DSector} (h:refersB p.network x=true):(siteN p x).name=x.site:=by
 obtain⟨hl,_⟩:=refers_site h
 unfold refersB at h
 simp only[Bool.and_eq_true,decide_eq_true_eq] at h
 rcases firstIdx_cases' (fun y:DSite=>eqS y.name x.site) p.network.sites with ⟨hi,_⟩|⟨k,hk,hi,he,_⟩
 ·have:=h.1;unfold idxSite at this;rw[hi] at this;omega
 ·have e:(idxSite p.network.sites x.site).toNat=k:=by unfold idxSite;rw[hi];exact Int.toNat_natCast k
  unfold siteN
  rw[e,← gSite_eq hk]
  exact eqS_iff.1 he
theorem planB_terr {p:DPlan} (h:planB p=true):(1≤p.terrain.step∧p.terrain.step≤10000)∧(2≤p.terrain.width∧p.terrain.width≤24)∧(2≤p.terrain.height∧p.terrain.height≤24)∧(0≤(p.terrain.width-1)*p.terrain.step∧(p.terrain.width-1)*p.terrain.step≤230000)∧(0≤(p.terrain.height-1)*p.terrain.step∧(p.terrain.height-1)*p.terrain.step≤230000):=by
 unfold planB terrB sizeB at h
 simp only[Bool.and_eq_true] at h
 obtain⟨a1,a2⟩:=inB_true.1 h.1.1.1
 obtain⟨b1,b2⟩:=inB_true.1 h.1.1.2.1
 obtain⟨c1,c2⟩:=inB_true.1 h.1.1.2.2.1
 exact⟨⟨a1,a2⟩,⟨b1,b2⟩,⟨c1,c2⟩,mulB (by omega) (by omega) a1 a2,mulB (by omega) (by omega) a1 a2⟩
theorem planB_net {p:DPlan} (h:planB p=true):netB p.network=true:=by
 unfold planB at h
 simp only[Bool.and_eq_true] at h
 exact h.2.1
structure Parts (n:DNetwork) (x:DSector) (ka kr:Nat):Prop where
 la:ka<n.antennas.length
 lr:kr<n.radios.length
 ia:idxAntenna n.antennas x.antenna=(ka:Int)
 ir:idxRadio n.radios x.radio=(kr:Int)
 ok:antB (gAntenna n.antennas ka)=true
 rok:radB (gRadio n.radios kr)=true
 sec:sectorB x=true
theorem parts_of_sector {n:DNetwork} (h:netB n=true) {q:Nat} (hq:q<n.sectors.length):∃ ka kr,Parts n (gSector n.sectors q) ka kr:=by
 have hh:=h
 rw[netB_eq] at h
 unfold modelsB at h
 simp only[Bool.and_eq_true] at h
 have:=rowOk_ok h.2.2.2.2 hq
 rw[gSector_eq hq] at this
 have hs:sectorB (gSector n.sectors q)=true:=(Bool.and_eq_true_iff.1 this).1
 have h2:refersB n (gSector n.sectors q)=true:=(Bool.and_eq_true_iff.1 this).2
 unfold refersB at h2
 simp only[Bool.and_eq_true,decide_eq_true_iff] at h2
 rcases firstIdx_cases' (fun y:DAntenna=>eqS y.name (gSector n.sectors q).antenna) n.antennas with ⟨hi,_⟩|⟨ka,hka,hia,_,_⟩
 ·have:=h2.2.1;unfold idxAntenna at this;rw[hi] at this;omega
 rcases firstIdx_cases' (fun y:DRadio=>eqS y.name (gSector n.sectors q).radio) n.radios with ⟨hi,_⟩|⟨kr,hkr,hir,_,_⟩
 ·have:=h2.2.2;unfold idxRadio at this;rw[hi] at this;omega
 have ha:=rowOk_ok h.1.1 hka
 have hr:=rowOk_ok h.1.2.1 hkr
 rw[gAntenna_eq hka] at ha
 rw[gRadio_eq hkr] at hr
 exact⟨ka,kr,hka,hkr,hia,hir,ha,hr,hs⟩
theorem radio_bd {r:DRadio} (h:radB r=true):(-100000≤r.power∧r.power≤100000)∧(0≤r.feeder∧r.feeder≤30000):=by
 unfold radB at h
 simp only[Bool.and_eq_true] at h
 exact⟨inB_true.1 h.2.1,inB_true.1 h.2.2.1⟩
theorem ant_gain {a:DAntenna} (h:antB a=true):-60000≤a.gain∧a.gain≤60000:=by
 unfold antB at h
 simp only[Bool.and_eq_true] at h
 exact inB_true.1 h.2.1
theorem iRadio_any (n:DNetwork) (x:DSector) (v0 v1 v2 v3:Value) (w:World) (r3:Rd w.heap.size w (DRadio.sT n.radios) v3) (l3:n.radios.length≤1099511627776) (k:Nat) (hk:k<n.radios.length) (hi:idxRadio n.radios x.radio=(k:Int)) (b off c cm:Nat) (am:Option Addr) (ev:v3=.slice (some ⟨b,off,none⟩) n.radios.length c) (hbl:b<w.heap.size) (sm:w.cell? ⟨b,off+k*6+5,none⟩=some (.slice am (gRadio n.radios k).modes.length cm)) :
  Calls Tryz.prog 140 #[.agg #[v0,v1,v2,v3],.agg #[.string x.name,.string x.site,.string x.antenna,.string x.radio,.string x.band,.int .i64 x.azimuth,.int .i64 x.tilt,.int .i64 x.above,.int .i64 x.channel]] w fun e w'=>e=.returned (.agg #[.string (gRadio n.radios k).name,.int .i64 (gRadio n.radios k).power,.int .i64 (gRadio n.radios k).feeder,.int .i64 (gRadio n.radios k).noise,.int .i64 (gRadio n.radios k).width,.slice am (gRadio n.radios k).modes.length cm])∧Below w.heap.size w w':=by
 have HS:Hid (∀ W:World,Below w.heap.size w W→Calls Tryz.prog 195 #[.agg #[v0,v1,v2,v3],.string x.radio] W fun e w'=>e=.returned (.int .i64 (k:Int))∧Below W.heap.size W w'):=fun W hW=>by
  have:=radioNamed_any n.radios x.radio v0 v1 v2 v3 w.heap.size W (r3.below hW) hW.size l3
  rw[hi] at this
  exact this
 obtain⟨a,c',e,_,_,hcl⟩:=DRadio.rd r3
 obtain⟨b',off',ea,hbl',hat⟩:=hcl (by omega)
 subst ea ev
 injection e with e1 _ e3
 injection e1 with e1
 injection e1 with e1 e2
 subst e1 e2 e3
 obtain⟨s0,s1,s2,s3,s4,_⟩:=hat k hk
 rw[gRadio_eq hk] at s0 s1 s2 s3 s4
 have s5:=sm
 have i1:(0:Int)≤(k:Int):=by omega
 have i2:(k:Int)<(n.radios.length:Int):=by omega
 clear hcl hat r3 hi sm hbl'
 generalize gRadio n.radios k=R at *
 have b0:Below w.heap.size w (((w.alloc (.cells #[v0,v1,v2,.slice (some ⟨b,off,none⟩) n.radios.length c] 48)).alloc (.cells #[.string x.name,.string x.site,.string x.antenna,.string x.radio,.string x.band,.int .i64 x.azimuth,.int .i64 x.tilt,.int .i64 x.above,.int .i64 x.channel] 128)).alloc (.cells #[.string ⟨#[]⟩,.int .i64 0,.int .i64 0,.int .i64 0,.int .i64 0,.slice none 0 0] 139)):=((((Below.refl _ _).alloc (Nat.le_refl _) _).alloc (by first|(simp;done)|(simp;omega)) _).alloc (by first|(simp;done)|(simp;omega)) _)
 have z0:w.heap.size+3≤(((w.alloc (.cells #[v0,v1,v2,.slice (some ⟨b,off,none⟩) n.radios.length c] 48)).alloc (.cells #[.string x.name,.string x.site,.string x.antenna,.string x.radio,.string x.band,.int .i64 x.azimuth,.int .i64 x.tilt,.int .i64 x.above,.int .i64 x.channel] 128)).alloc (.cells #[.string ⟨#[]⟩,.int .i64 0,.int .i64 0,.int .i64 0,.int .i64 0,.slice none 0 0] 139)).heap.size:=by simp
 go_enter Tryz.func140,Tryz.ntmps140
 go_wp2
 have f0:(((w.alloc (.cells #[v0,v1,v2,.slice (some ⟨b,off,none⟩) n.radios.length c] 48)).alloc (.cells #[.string x.name,.string x.site,.string x.antenna,.string x.radio,.string x.band,.int .i64 x.azimuth,.int .i64 x.tilt,.int .i64 x.above,.int .i64 x.channel] 128)).alloc (.cells #[.string ⟨#[]⟩,.int .i64 0,.int .i64 0,.int .i64 0,.int .i64 0,.slice none 0 0] 139)).cell? ⟨w.heap.size,0,none⟩=some (v0):=by simp[go_sem]
 have f1:(((w.alloc (.cells #[v0,v1,v2,.slice (some ⟨b,off,none⟩) n.radios.length c] 48)).alloc (.cells #[.string x.name,.string x.site,.string x.antenna,.string x.radio,.string x.band,.int .i64 x.azimuth,.int .i64 x.tilt,.int .i64 x.above,.int .i64 x.channel] 128)).alloc (.cells #[.string ⟨#[]⟩,.int .i64 0,.int .i64 0,.int .i64 0,.int .i64 0,.slice none 0 0] 139)).cell? ⟨w.heap.size,1,none⟩=some (v1):=by simp[go_sem]
 have f2:(((w.alloc (.cells #[v0,v1,v2,.slice (some ⟨b,off,none⟩) n.radios.length c] 48)).alloc (.cells #[.string x.name,.string x.site,.string x.antenna,.string x.radio,.string x.band,.int .i64 x.azimuth,.int .i64 x.tilt,.int .i64 x.above,.int .i64 x.channel] 128)).alloc (.cells #[.string ⟨#[]⟩,.int .i64 0,.int .i64 0,.int .i64 0,.int .i64 0,.slice none 0 0] 139)).cell? ⟨w.heap.size,2,none⟩=some (v2):=by simp[go_sem]
 have f3:(((w.alloc (.cells #[v0,v1,v2,.slice (some ⟨b,off,none⟩) n.radios.length c] 48)).alloc (.cells #[.string x.name,.string x.site,.string x.antenna,.string x.radio,.string x.band,.int .i64 x.azimuth,.int .i64 x.tilt,.int .i64 x.above,.int .i64 x.channel] 128)).alloc (.cells #[.string ⟨#[]⟩,.int .i64 0,.int .i64 0,.int .i64 0,.int .i64 0,.slice none 0 0] 139)).cell? ⟨w.heap.size,3,none⟩=some (.slice (some ⟨b,off,none⟩) n.radios.length c):=by simp[go_sem]
 have g3:(((w.alloc (.cells #[v0,v1,v2,.slice (some ⟨b,off,none⟩) n.radios.length c] 48)).alloc (.cells #[.string x.name,.string x.site,.string x.antenna,.string x.radio,.string x.band,.int .i64 x.azimuth,.int .i64 x.tilt,.int .i64 x.above,.int .i64 x.channel] 128)).alloc (.cells #[.string ⟨#[]⟩,.int .i64 0,.int .i64 0,.int .i64 0,.int .i64 0,.slice none 0 0] 139)).cell? ⟨w.heap.size+1,3,none⟩=some (.string x.radio):=by simp[go_sem]
 have h0:(((w.alloc (.cells #[v0,v1,v2,.slice (some ⟨b,off,none⟩) n.radios.length c] 48)).alloc (.cells #[.string x.name,.string x.site,.string x.antenna,.string x.radio,.string x.band,.int .i64 x.azimuth,.int .i64 x.tilt,.int .i64 x.above,.int .i64 x.channel] 128)).alloc (.cells #[.string ⟨#[]⟩,.int .i64 0,.int .i64 0,.int .i64 0,.int .i64 0,.slice none 0 0] 139)).cell? ⟨w.heap.size+1+1,0,none⟩=some (.string ⟨#[]⟩):=by simp[go_sem]
 have h1:(((w.alloc (.cells #[v0,v1,v2,.slice (some ⟨b,off,none⟩) n.radios.length c] 48)).alloc (.cells #[.string x.name,.string x.site,.string x.antenna,.string x.radio,.string x.band,.int .i64 x.azimuth,.int .i64 x.tilt,.int .i64 x.above,.int .i64 x.channel] 128)).alloc (.cells #[.string ⟨#[]⟩,.int .i64 0,.int .i64 0,.int .i64 0,.int .i64 0,.slice none 0 0] 139)).cell? ⟨w.heap.size+1+1,1,none⟩=some (.int .i64 0):=by simp[go_sem]
 have h2:(((w.alloc (.cells #[v0,v1,v2,.slice (some ⟨b,off,none⟩) n.radios.length c] 48)).alloc (.cells #[.string x.name,.string x.site,.string x.antenna,.string x.radio,.string x.band,.int .i64 x.azimuth,.int .i64 x.tilt,.int .i64 x.above,.int .i64 x.channel] 128)).alloc (.cells #[.string ⟨#[]⟩,.int .i64 0,.int .i64 0,.int .i64 0,.int .i64 0,.slice none 0 0] 139)).cell? ⟨w.heap.size+1+1,2,none⟩=some (.int .i64 0):=by simp[go_sem]
 have h3:(((w.alloc (.cells #[v0,v1,v2,.slice (some ⟨b,off,none⟩) n.radios.length c] 48)).alloc (.cells #[.string x.name,.string x.site,.string x.antenna,.string x.radio,.string x.band,.int .i64 x.azimuth,.int .i64 x.tilt,.int .i64 x.above,.int .i64 x.channel] 128)).alloc (.cells #[.string ⟨#[]⟩,.int .i64 0,.int .i64 0,.int .i64 0,.int .i64 0,.slice none 0 0] 139)).cell? ⟨w.heap.size+1+1,3,none⟩=some (.int .i64 0):=by simp[go_sem]
 have h4:(((w.alloc (.cells #[v0,v1,v2,.slice (some ⟨b,off,none⟩) n.radios.length c] 48)).alloc (.cells #[.string x.name,.string x.site,.string x.antenna,.string x.radio,.string x.band,.int .i64 x.azimuth,.int .i64 x.tilt,.int .i64 x.above,.int .i64 x.channel] 128)).alloc (.cells #[.string ⟨#[]⟩,.int .i64 0,.int .i64 0,.int .i64 0,.int .i64 0,.slice none 0 0] 139)).cell? ⟨w.heap.size+1+1,4,none⟩=some (.int .i64 0):=by simp[go_sem]
 have h5:(((w.alloc (.cells #[v0,v1,v2,.slice (some ⟨b,off,none⟩) n.radios.length c] 48)).alloc (.cells #[.string x.name,.string x.site,.string x.antenna,.string x.radio,.string x.band,.int .i64 x.azimuth,.int .i64 x.tilt,.int .i64 x.above,.int .i64 x.channel] 128)).alloc (.cells #[.string ⟨#[]⟩,.int .i64 0,.int .i64 0,.int .i64 0,.int .i64 0,.slice none 0 0] 139)).cell? ⟨w.heap.size+1+1,5,none⟩=some (.slice none 0 0):=by simp[go_sem]
 have hz:∀ o,(((w.alloc (.cells #[v0,v1,v2,.slice (some ⟨b,off,none⟩) n.radios.length c] 48)).alloc (.cells #[.string x.name,.string x.site,.string x.antenna,.string x.radio,.string x.band,.int .i64 x.azimuth,.int .i64 x.tilt,.int .i64 x.above,.int .i64 x.channel] 128)).alloc (.cells #[.string ⟨#[]⟩,.int .i64 0,.int .i64 0,.int .i64 0,.int .i64 0,.slice none 0 0] 139)).frozen? ⟨w.heap.size+1+1,o,none⟩=false:=by intro o;simp[go_sem]
 have t0:=(bat b0 b _ hbl).trans s0
 have t1:=(bat b0 b _ hbl).trans s1
 have t2:=(bat b0 b _ hbl).trans s2
 have t3:=(bat b0 b _ hbl).trans s3
 have t4:=(bat b0 b _ hbl).trans s4
 have t5:=(bat b0 b _ hbl).trans s5
 generalize (((w.alloc (.cells #[v0,v1,v2,.slice (some ⟨b,off,none⟩) n.radios.length c] 48)).alloc (.cells #[.string x.name,.string x.site,.string x.antenna,.string x.radio,.string x.band,.int .i64 x.azimuth,.int .i64 x.tilt,.int .i64 x.above,.int .i64 x.channel] 128)).alloc (.cells #[.string ⟨#[]⟩,.int .i64 0,.int .i64 0,.int .i64 0,.int .i64 0,.slice none 0 0] 139))=W1 at *
 have B0:=Lib.hid b0
 clear b0 s0 s1 s2 s3 s4 s5
 have oN:=overC (w0:=W1) (show w.heap.size<W1.heap.size by omega)
 have oX:=overC (w0:=W1) (show w.heap.size+1<W1.heap.size by omega)
 have oB:=overC (w0:=W1) (show b<W1.heap.size by omega)
 refine wp_region_over_tail 8 W1.heap.size W1 (Below.refl _ _) (by kernel_rfl) (by kernel_rfl) ?_
 simp only[List.take_succ_cons,List.take_zero,List.drop_succ_cons,List.drop_zero]
 repeat (go_big_quiet_step (first|(go_at_call 195;exact over_left (Nat.le_refl _) (HS.out _ (B0.out.trans ((over_below _ _ _).mono B0.out.size))))))
 refine wpQuiet_nil ?_
 intro X
 have hX:=over_below W1.heap.size W1 X
 clear oN oX oB
 generalize over W1.heap.size W1 X=w2 at *
 obtain⟨qe2,qf2,ye2⟩:=bcellAt hX (b:=w.heap.size+1+1) (by omega)
 have B2:=Lib.hid (B0.out.trans (hX.mono B0.out.size))
 clear hX
 go_wp2
 refine bodyPost_ret (v:=.agg #[.string R.name,.int .i64 R.power,.int .i64 R.feeder,.int .i64 R.noise,.int .i64 R.width,.slice am R.modes.length cm]) (by simp[results,Tryz.results140,go_sem, *]) rfl ?_
 exact⟨rfl,((((((B2.out.setCell (p:=⟨w.heap.size+1+1,0,none⟩) (by show w.heap.size≤w.heap.size+1+1;omega) _).setCell (p:=⟨w.heap.size+1+1,1,none⟩) (by show w.heap.size≤w.heap.size+1+1;omega) _).setCell (p:=⟨w.heap.size+1+1,2,none⟩) (by show w.heap.size≤w.heap.size+1+1;omega) _).setCell (p:=⟨w.heap.size+1+1,3,none⟩) (by show w.heap.size≤w.heap.size+1+1;omega) _).setCell (p:=⟨w.heap.size+1+1,4,none⟩) (by show w.heap.size≤w.heap.size+1+1;omega) _).setCell (p:=⟨w.heap.size+1+1,5,none⟩) (by show w.heap.size≤w.heap.size+1+1;omega) _)⟩
theorem store4 (w:World) (b T:Nat) (z0 z1 z2 z3 v0 v1 v2 v3:Value) (h:w.heap[b]? = some (.cells #[z0,z1,z2,z3] T (0,0))) :
  ∃ W,((((w.setCell ⟨b,0,none⟩ v0).setCell ⟨b,1,none⟩ v1).setCell ⟨b,2,none⟩ v2).setCell ⟨b,3,none⟩ v3)=W∧W.heap[b]? = some (.cells #[v0,v1,v2,v3] T (0,0))∧(∀ c,c≠b→W.heap[c]? = w.heap[c]?)∧W.heap.size=w.heap.size∧(∀ B a,Below B a w→B≤b→Below B a W):=by
 refine⟨_,rfl,?_,fun c hc=>?_,by simp only[size_setCell],fun B a hB hb=>(bset (bset (bset (bset hB hb 0 v0) hb 1 v1) hb 2 v2) hb 3 v3)⟩
 ·have h_:=(bkS (bkS (bkS (bkS h 0 v0) 1 v1) 2 v2) 3 v3)
  simpa using h_
 ·repeat rw[Below.heap_setCell _ _ _ _ hc]
theorem store6 (w:World) (b T:Nat) (z0 z1 z2 z3 z4 z5 v0 v1 v2 v3 v4 v5:Value) (h:w.heap[b]? = some (.cells #[z0,z1,z2,z3,z4,z5] T (0,0))) :
  ∃ W,((((((w.setCell ⟨b,0,none⟩ v0).setCell ⟨b,1,none⟩ v1).setCell ⟨b,2,none⟩ v2).setCell ⟨b,3,none⟩ v3).setCell ⟨b,4,none⟩ v4).setCell ⟨b,5,none⟩ v5)=W∧W.heap[b]? = some (.cells #[v0,v1,v2,v3,v4,v5] T (0,0))∧(∀ c,c≠b→W.heap[c]? = w.heap[c]?)∧W.heap.size=w.heap.size∧(∀ B a,Below B a w→B≤b→Below B a W):=by
 refine⟨_,rfl,?_,fun c hc=>?_,by simp only[size_setCell],fun B a hB hb=>(bset (bset (bset (bset (bset (bset hB hb 0 v0) hb 1 v1) hb 2 v2) hb 3 v3) hb 4 v4) hb 5 v5)⟩
 ·have h_:=(bkS (bkS (bkS (bkS (bkS (bkS h 0 v0) 1 v1) 2 v2) 3 v3) 4 v4) 5 v5)
  simpa using h_
 ·repeat rw[Below.heap_setCell _ _ _ _ hc]
theorem has_any (t:DTerrain) (q:DPoint) (v3 v4:Value) (hw:2≤t.width∧t.width≤24) (hh:2≤t.height∧t.height≤24) (m1:0≤(t.width-1)*t.step∧(t.width-1)*t.step≤230000) (m2:0≤(t.height-1)*t.step∧(t.height-1)*t.step≤230000) (w:World) :
  Calls Tryz.prog 137 #[.agg #[.int .i64 t.step,.int .i64 t.width,.int .i64 t.height,v3,v4],.agg #[.int .i64 q.x,.int .i64 q.y]] w fun e w'=>e=.returned (.bool (inTerr t q))∧Below w.heap.size w w':=by
 obtain⟨w1_,w2_⟩:=hw
 obtain⟨h1_,h2_⟩:=hh
 obtain⟨m11,m12⟩:=m1
 obtain⟨m21,m22⟩:=m2
 have B0:Hid (Below w.heap.size w ((w.alloc (.cells #[.int .i64 t.step,.int .i64 t.width,.int .i64 t.height,v3,v4] 42)).alloc (.cells #[.int .i64 q.x,.int .i64 q.y] 79))):=(Below.alloc (Below.alloc (Below.refl _ _) (by first|exact Nat.le_refl _|(simp;done)|(simp;omega)) _) (by first|exact Nat.le_refl _|(simp;done)|(simp;omega)) _)
 have HD:Hid (∀ W:World,Below ((w.alloc (.cells #[.int .i64 t.step,.int .i64 t.width,.int .i64 t.height,v3,v4] 42)).alloc (.cells #[.int .i64 q.x,.int .i64 q.y] 79)).heap.size ((w.alloc (.cells #[.int .i64 t.step,.int .i64 t.width,.int .i64 t.height,v3,v4] 42)).alloc (.cells #[.int .i64 q.x,.int .i64 q.y] 79)) W→(W.cell? ⟨w.heap.size,0,none⟩=some (.int .i64 t.step)∧W.cell? ⟨w.heap.size,1,none⟩=some (.int .i64 t.width)∧W.cell? ⟨w.heap.size,2,none⟩=some (.int .i64 t.height)∧W.cell? ⟨w.heap.size,3,none⟩=some (v3)∧W.cell? ⟨w.heap.size,4,none⟩=some (v4)∧W.cell? ⟨w.heap.size+1,0,none⟩=some (.int .i64 q.x)∧W.cell? ⟨w.heap.size+1,1,none⟩=some (.int .i64 q.y))):=fun W hW=>⟨by rw[hW.cell (p:=⟨w.heap.size,0,none⟩) (by first|(simp;done)|(simp;omega))];simp[go_sem],by rw[hW.cell (p:=⟨w.heap.size,1,none⟩) (by first|(simp;done)|(simp;omega))];simp[go_sem],by rw[hW.cell (p:=⟨w.heap.size,2,none⟩) (by first|(simp;done)|(simp;omega))];simp[go_sem],by rw[hW.cell (p:=⟨w.heap.size,3,none⟩) (by first|(simp;done)|(simp;omega))];simp[go_sem],by rw[hW.cell (p:=⟨w.heap.size,4,none⟩) (by first|(simp;done)|(simp;omega))];simp[go_sem],by rw[hW.cell (p:=⟨w.heap.size+1,0,none⟩) (by first|(simp;done)|(simp;omega))];simp[go_sem],by rw[hW.cell (p:=⟨w.heap.size+1,1,none⟩) (by first|(simp;done)|(simp;omega))];simp[go_sem]⟩
 have HB:Hid (Below ((w.alloc (.cells #[.int .i64 t.step,.int .i64 t.width,.int .i64 t.height,v3,v4] 42)).alloc (.cells #[.int .i64 q.x,.int .i64 q.y] 79)).heap.size ((w.alloc (.cells #[.int .i64 t.step,.int .i64 t.width,.int .i64 t.height,v3,v4] 42)).alloc (.cells #[.int .i64 q.x,.int .i64 q.y] 79)) ((w.alloc (.cells #[.int .i64 t.step,.int .i64 t.width,.int .i64 t.height,v3,v4] 42)).alloc (.cells #[.int .i64 q.x,.int .i64 q.y] 79))):=Below.refl _ _
 by_cases h0:inB q.x 0 ((t.width-1)*t.step)=true
 case neg =>
  replace h0:inB q.x 0 ((t.width-1)*t.step)=false:=Bool.eq_false_iff.2 h0
  have HE:Hid (inTerr t q=false):=by show _=_;unfold inTerr;simp only[h0]<;>rfl
  go_enter Tryz.func137,Tryz.ntmps137
  go_wp2_with (first|(go_at_call 175;refine (within_any _ _ _ _).mono ?_;rintro e w1 ⟨rfl,rfl⟩))
  go_ret
  exact⟨by rw[HE.out];rfl,by exact B0.out.trans (HB.out.mono (by first|exact Nat.le_refl _|(simp;done)|(simp;omega)))⟩
 by_cases h1:inB q.y 0 ((t.height-1)*t.step)=true
 case neg =>
  replace h1:inB q.y 0 ((t.height-1)*t.step)=false:=Bool.eq_false_iff.2 h1
  have HE:Hid (inTerr t q=false):=by show _=_;unfold inTerr;simp only[h0,h1]<;>rfl
  go_enter Tryz.func137,Tryz.ntmps137
  go_wp2_with (first|(go_at_call 175;refine (within_any _ _ _ _).mono ?_;rintro e w1 ⟨rfl,rfl⟩))
  go_ret
  exact⟨by rw[HE.out];rfl,by exact B0.out.trans (HB.out.mono (by first|exact Nat.le_refl _|(simp;done)|(simp;omega)))⟩
 have HE:Hid (inTerr t q=true):=by show _=_;unfold inTerr;simp only[h0,h1]<;>rfl
 go_enter Tryz.func137,Tryz.ntmps137
 go_wp2_with (first|(go_at_call 175;refine (within_any _ _ _ _).mono ?_;rintro e w1 ⟨rfl,rfl⟩))
 go_ret
 exact⟨by rw[HE.out];rfl,by exact B0.out.trans (HB.out.mono (by first|exact Nat.le_refl _|(simp;done)|(simp;omega)))⟩
theorem l04In_any (t:DTerrain) (q:DPoint) (b off:Nat) (hw:2≤t.width∧t.width≤24) (hh:2≤t.height∧t.height≤24) (m1:0≤(t.width-1)*t.step∧(t.width-1)*t.step≤230000) (m2:0≤(t.height-1)*t.step∧(t.height-1)*t.step≤230000) (w:World) (c0:w.cell? ⟨b,off,none⟩=some (.int .i64 t.step)) (c1:w.cell? ⟨b,off+1,none⟩=some (.int .i64 t.width)) (c2:w.cell? ⟨b,off+2,none⟩=some (.int .i64 t.height)) :
  Calls Tryz.prog 129 #[.pointer (some ⟨b,off,none⟩),.agg #[.int .i64 q.x,.int .i64 q.y]] w fun e w'=>e=.returned (.bool (inTerr t q))∧Below w.heap.size w w':=by
 obtain⟨w1_,w2_⟩:=hw
 obtain⟨h1_,h2_⟩:=hh
 obtain⟨m11,m12⟩:=m1
 obtain⟨m21,m22⟩:=m2
 have hbl:=cell_lt c0
 dsimp only at hbl
 have b0:=below_alloc w (.cells #[.int .i64 q.x,.int .i64 q.y] 79)
 have k0:=bkN w #[.int .i64 q.x,.int .i64 q.y] 79
 have z0:w.heap.size+1≤(w.alloc (.cells #[.int .i64 q.x,.int .i64 q.y] 79)).heap.size:=by simp
 have d0:=(bat b0 b _ hbl).trans c0
 have d1:=(bat b0 b _ hbl).trans c1
 have d2:=(bat b0 b _ hbl).trans c2
 have e0:=bkC (v:=.int .i64 q.x) k0 0 rfl
 have e1:=bkC (v:=.int .i64 q.y) k0 1 rfl
 clear k0 c0 c1 c2
 generalize hW0:(w.alloc (.cells #[.int .i64 q.x,.int .i64 q.y] 79))=W0 at *
 have HW0:=Lib.hid hW0
 have B0:=Lib.hid b0
 clear hW0 b0
 have CD:Hid (∀ (n lo hi:Int) (W:World),Calls Tryz.prog 148 #[.int .i64 n,.int .i64 lo,.int .i64 hi] W fun e w'=>e=.returned (.bool (inB n lo hi))∧W=w'):=fun _ _ _ W=>l00In_any _ _ _ _
 have C1:Hid (∀ (W:World),Calls Tryz.prog 148 #[.int .i64 q.x,.int .i64 0,.int .i64 ((t.width-1)*t.step)] W fun e w'=>e=.returned (.bool (inB q.x 0 ((t.width-1)*t.step)))∧W=w'):=fun W=>l00In_any _ _ _ _
 have C2:Hid (∀ (W:World),Calls Tryz.prog 148 #[.int .i64 q.y,.int .i64 0,.int .i64 ((t.height-1)*t.step)] W fun e w'=>e=.returned (.bool (inB q.y 0 ((t.height-1)*t.step)))∧W=w'):=fun W=>l00In_any _ _ _ _
 by_cases h0:inB q.x 0 ((t.width-1)*t.step)=true
 case neg =>
  replace h0:inB q.x 0 ((t.width-1)*t.step)=false:=Bool.eq_false_iff.2 h0
  have HE:Hid (inTerr t q=false):=by show _=_;unfold inTerr;rw[h0];rfl
  rw[h0] at C1
  go_enter Tryz.func129,Tryz.ntmps129
  go_upto_region 1 with (fail)
  rw[HW0.out]
  have o0:=overC (w0:=W0) (show b<W0.heap.size by omega)
  have o1:=overC (w0:=W0) (show w.heap.size<W0.heap.size by omega)
  refine wp_region_over W0.heap.size W0 (Below.refl _ _) (by kernel_rfl) (by kernel_rfl) ?_
  repeat (go_big_quiet_step (first|(go_at_call 148;with_reducible exact over_same (C1.out _))|(go_at_call 148;with_reducible exact over_same (C2.out _))))
  refine wpQuiet_nil ?_
  rintro _ ⟨X,rfl⟩
  have BE:=Lib.hid (B0.out.trans ((over_below W0.heap.size W0 X).mono (by omega)))
  clear o0 o1
  generalize over W0.heap.size W0 X=W9 at *
  go_wp2
  go_ret
  exact⟨by rw[HE.out];rfl,BE.out⟩
 rw[h0] at C1
 by_cases h1:inB q.y 0 ((t.height-1)*t.step)=true
 case neg =>
  replace h1:inB q.y 0 ((t.height-1)*t.step)=false:=Bool.eq_false_iff.2 h1
  have HE:Hid (inTerr t q=false):=by show _=_;unfold inTerr;rw[h0,h1];rfl
  rw[h1] at C2
  go_enter Tryz.func129,Tryz.ntmps129
  go_upto_region 1 with (fail)
  rw[HW0.out]
  have o0:=overC (w0:=W0) (show b<W0.heap.size by omega)
  have o1:=overC (w0:=W0) (show w.heap.size<W0.heap.size by omega)
  refine wp_region_over W0.heap.size W0 (Below.refl _ _) (by kernel_rfl) (by kernel_rfl) ?_
  repeat (go_big_quiet_step (first|(go_at_call 148;with_reducible exact over_same (C1.out _))|(go_at_call 148;with_reducible exact over_same (C2.out _))))
  refine wpQuiet_nil ?_
  rintro _ ⟨X,rfl⟩
  have BE:=Lib.hid (B0.out.trans ((over_below W0.heap.size W0 X).mono (by omega)))
  clear o0 o1
  generalize over W0.heap.size W0 X=W9 at *
  go_wp2
  go_ret
  exact⟨by rw[HE.out];rfl,BE.out⟩
 have HE:Hid (inTerr t q=true):=by show _=_;unfold inTerr;rw[h0,h1];rfl
 rw[h1] at C2
 go_enter Tryz.func129,Tryz.ntmps129
 go_upto_region 1 with (fail)
 rw[HW0.out]
 have o0:=overC (w0:=W0) (show b<W0.heap.size by omega)
 have o1:=overC (w0:=W0) (show w.heap.size<W0.heap.size by omega)
 refine wp_region_over W0.heap.size W0 (Below.refl _ _) (by kernel_rfl) (by kernel_rfl) ?_
 repeat (go_big_quiet_step (first|(go_at_call 148;with_reducible exact over_same (C1.out _))|(go_at_call 148;with_reducible exact over_same (C2.out _))))
 refine wpQuiet_nil ?_
 rintro _ ⟨X,rfl⟩
 have BE:=Lib.hid (B0.out.trans ((over_below W0.heap.size W0 X).mono (by omega)))
 clear o0 o1
 generalize over W0.heap.size W0 X=W9 at *
 go_wp2
 go_ret
 exact⟨by rw[HE.out];rfl,BE.out⟩
end Go.Proofs.YtjfmkmcefnidcaaGreat
