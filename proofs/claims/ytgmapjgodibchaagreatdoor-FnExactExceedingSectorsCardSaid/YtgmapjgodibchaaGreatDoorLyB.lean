/- Contracts: the middle of a channel, for the program and for the reference; the frequency with which a sector reaches a protected range, for the reference. Conditions: valid bands. -/
import Derived.Test.YtgmapjgodibchaaGreatDoorLvV
import Derived.Test.YtgmapjgodibchaaGreatDoorBnd
set_option linter.unusedVariables false
set_option linter.unusedSimpArgs false
namespace Go.Proofs.YtgmapjgodibchaaGreatDoor
theorem terrB_ok {t:DTerrain} (h:zd6 t=true):TerrOk t:=by
 unfold zd6 at h;simp only[Bool.and_eq_true,decide_eq_true_eq,beq_iff_eq] at h;obtain⟨hs,hl,hc,ha,hb⟩:=h;unfold zeu at hs;simp only[Bool.and_eq_true,decide_eq_true_eq] at hs;obtain⟨h1,h2,h3,h4⟩:=hs;obtain⟨a0,a1⟩:=zat.1 h1;obtain⟨b0,b1⟩:=zat.1 h2;obtain⟨c0,c1⟩:=zat.1 h3;have m1:(t.width-1)*t.step≤max (t.width-1) (t.height-1)*t.step:=Int.mul_le_mul_of_nonneg_right O O;have m2:(t.height-1)*t.step≤max (t.width-1) (t.height-1)*t.step:=Int.mul_le_mul_of_nonneg_right O O;have m3:0≤(t.width-1)*t.step:=Int.mul_nonneg O O;have m4:0≤(t.height-1)*t.step:=Int.mul_nonneg O O;exact⟨a0,a1,b0,b1,c0,c1,⟨m3,O⟩,⟨m4,O⟩,hl,O,fun k=>all_gi ha O k,fun k=>all_gi hb O k⟩
def inTB (t:DTerrain) (p:DPoint):Bool:=inB p.x 0 ((t.width-1)*t.step)&&inB p.y 0 ((t.height-1)*t.step)
theorem inTB_true {t:DTerrain} {p:DPoint} : inTB t p=true↔inT t p:=by
 unfold inTB inT;rw[Bool.and_eq_true,zat,zat]
theorem endB_true {e:DEnd} : endB e=true↔ptB e.place∧endP e:=by
 unfold endB zcw ptB endP;rw[Bool.and_eq_true,Bool.and_eq_true,zat,zat,zat]
def samePB (p q:DPoint):Bool:=decide (p.x=q.x)&&decide (p.y=q.y)
theorem samePB_true {p q:DPoint} : samePB p q=true↔(p.x=q.x∧p.y=q.y):=by
 unfold samePB;rw[Bool.and_eq_true,decide_eq_true_eq,decide_eq_true_eq]
theorem samePB_false {p q:DPoint} : samePB p q=false↔¬ (p.x=q.x∧p.y=q.y):=by
 rw[← samePB_true];simp
def levI (t:DTerrain) (n:DNetwork) (x:DSector) (f:Int) (e:DEnd):Int :=
 eirpN n x (zdt (endR n x).place e.place) (zea t (endR n x) e)-pathT t (endR n x) e f
def zfa (t:DTerrain) (n:DNetwork) (x:DSector) (e:DEnd):Bool:=inTB t (endR n x).place&&!samePB (endR n x).place e.place
theorem reachB_true {t:DTerrain} {n:DNetwork} {x:DSector} {e:DEnd} : zfa t n x e=true↔inT t (endR n x).place∧¬ ((endR n x).place.x=e.place.x∧(endR n x).place.y=e.place.y):=by
 unfold zfa;rw[Bool.and_eq_true,inTB_true,Bool.not_eq_true',samePB_false]
theorem sector_above {n:DNetwork} (h:netB n=true) {q:Nat} (hq:q<n.sectors.length):endP (endR n (zac n.sectors q)):=by
 obtain⟨ka,kr,hp⟩:=zdv h hq;have hs:=hp.sec;unfold zan at hs;simp only[Bool.and_eq_true] at hs;exact zat.1 hs.2.2.2.2.2.2.2.1
end Go.Proofs.YtgmapjgodibchaaGreatDoor
namespace Go.Proofs.YtgmapjgodibchaaGreatDoor
open Go.RowKit
theorem lw_take_succ {α:Type} (p:α→Bool) (l:List α) {k:Nat} (hk:k<l.length):(l.take (k+1)).all p=((l.take k).all p&&p l[k]):=by
 rw[List.take_succ_eq_append_getElem hk,List.all_append];simp
theorem lw_false_at {α:Type} {p:α→Bool} {l:List α} {k:Nat} (hk:k<l.length) (h:p l[k]=false):l.all p=false:=by
 rw[List.all_eq_false];exact⟨l[k],List.getElem_mem hk,by rw[h];decide⟩
theorem zfc {n:DNetwork} (h:netB n=true) (k:Nat) (hk:k<n.sectors.length):∃ ks,∃ hks:ks<n.sites.length,zcp n.sites (zac n.sectors k).site=(ks:Int):=site_of_sector h hk
def zc9 (bs:List DBand) (x:DSector):DBand:=ze2 bs (zbu bs x.band).toNat
def hasX (bs:List DBand) (x:DSector):Bool:=decide (0≤zbu bs x.band)&&inB x.channel 0 (cntB (zc9 bs x)-1)
def lowX (bs:List DBand) (x:DSector):Int:=(zc9 bs x).low+x.channel*(zc9 bs x).raster
def meetX (bs:List DBand) (x:DSector) (p:DProtected):Bool:=decide (p.low<lowX bs x+(zc9 bs x).raster)&&decide (lowX bs x<p.high)
def useX (bs:List DBand) (x:DSector) (p:DProtected):Bool:=hasX bs x&&meetX bs x p
def midX (bs:List DBand) (x:DSector):Int:=lowX bs x+(zc9 bs x).raster.tdiv 2
def freqX (bs:List DBand) (x:DSector) (p:DProtected):Int:=if useX bs x p=true then midX bs x else 0
def levX (t:DTerrain) (n:DNetwork) (bs:List DBand) (p:DProtected) (x:DSector):Int:=if useX bs x p=true then max (levI t n x (midX bs x) p.at_) (-300000) else -300000
def rowX (t:DTerrain) (n:DNetwork) (bs:List DBand) (p:DProtected):List Int:=n.sectors.map (levX t n bs p)
def zeh (t:DTerrain) (n:DNetwork) (bs:List DBand) (p:DProtected) (x:DSector):Bool:=!useX bs x p || zfa t n x p.at_
def okX (t:DTerrain) (n:DNetwork) (bs:List DBand) (p:DProtected):Bool:=n.sectors.all (zeh t n bs p)
def za1 (t:DTerrain) (n:DNetwork) (bs:List DBand) (p:DProtected):List Int × Int :=
 if zd6 t=true∧netB n=true∧zcd bs=true∧zcm p=true then
  (if zcg t p.at_.place=true then (if okX t n bs p=true then (rowX t n bs p,0) else ([],6)) else ([],2)) else ([],1)
theorem bandsB_at {l:List DBand} (h:zcd l=true) {j:Nat} (hj:j<l.length):zbo (ze2 l j)=true:=by
 unfold zcd at h;rw[Bool.and_eq_true] at h;rw[← zcl hj];exact rowOk_ok h.2 hj
theorem protB_true {p:DProtected} (h:zcm p=true):zbh p.name=true∧endB p.at_=true∧inB p.low 1 100000000=true∧inB p.high 1 100000000=true∧p.low<p.high∧inB p.limit (-300000) 300000=true:=by
 unfold zcm at h
 simpa only[Bool.and_eq_true,decide_eq_true_eq] using h
theorem hasX_true {bs:List DBand} {x:DSector} (h:hasX bs x=true):0≤zbu bs x.band∧0≤x.channel∧x.channel≤cntB (zc9 bs x)-1:=by
 unfold hasX at h;rw[Bool.and_eq_true,decide_eq_true_eq,zat] at h;exact h
theorem chan_in {x:DBand} {c:Int} (hb:zbo x=true) (h0:0≤c) (h1:c≤cntB x-1):1≤x.low+c*x.raster∧x.low+c*x.raster+x.raster≤100000000∧1≤x.raster:=by
 obtain⟨f1,f2,f3,f4,f5,f6,f7,f8⟩:=ze6 hb;have e1:cntB x=(x.high-x.low) / x.raster:=Int.tdiv_eq_ediv_of_nonneg O;have e2:(x.high-x.low) / x.raster*x.raster≤x.high-x.low:=Int.ediv_mul_le _ O;have e3:c*x.raster≤(cntB x-1)*x.raster:=Int.mul_le_mul_of_nonneg_right h1 O;have e4:0≤c*x.raster:=Int.mul_nonneg h0 O;rw[← e1] at e2;rw[Int.sub_mul,Int.one_mul] at e3;omega
theorem mid_in {bs:List DBand} {x:DSector} (hb:zcd bs=true) (h:hasX bs x=true):1≤midX bs x∧midX bs x≤100000000:=by
 obtain⟨h0,h1,h2⟩:=hasX_true h;obtain⟨h3,h4⟩:=idxBand_lt _ _ h0;obtain⟨g1,g2,g3⟩:=chan_in (bandsB_at hb h3) h1 h2;have e:(zc9 bs x).raster.tdiv 2=(zc9 bs x).raster / 2:=Int.tdiv_eq_ediv_of_nonneg (by show 0≤(ze2 bs (zbu bs x.band).toNat).raster;omega);unfold midX lowX;rw[e];unfold zc9;omega
theorem useX_has {bs:List DBand} {x:DSector} {p:DProtected} (h:useX bs x p=true):hasX bs x=true:=by
 unfold useX at h;rw[Bool.and_eq_true] at h;exact h.1
theorem freqX_use {bs:List DBand} {x:DSector} {p:DProtected} (h:useX bs x p=true):freqX bs x p=midX bs x:=if_pos h
theorem freqX_not {bs:List DBand} {x:DSector} {p:DProtected} (h:useX bs x p=false):freqX bs x p=0:=if_neg (by rw[h];decide)
theorem levX_use {t:DTerrain} {n:DNetwork} {bs:List DBand} {p:DProtected} {x:DSector} (h:useX bs x p=true):levX t n bs p x=max (levI t n x (midX bs x) p.at_) (-300000):=if_pos h
theorem levX_not {t:DTerrain} {n:DNetwork} {bs:List DBand} {p:DProtected} {x:DSector} (h:useX bs x p=false):levX t n bs p x = -300000:=if_neg (by rw[h];decide)
theorem zdj (t:DTerrain) (n:DNetwork) (bs:List DBand) (p:DProtected):(rowX t n bs p).length=n.sectors.length:=by simp[rowX]
theorem rowX_take (t:DTerrain) (n:DNetwork) (bs:List DBand) (p:DProtected) {k:Nat} (hk:k<n.sectors.length):((rowX t n bs p).take (k+1)).map intT=((rowX t n bs p).take k).map intT++[intT (levX t n bs p (zac n.sectors k))]:=by
 have h:k<(rowX t n bs p).length:=by rw[zdj];exact hk
 rw[List.take_succ_eq_append_getElem h,List.map_append];simp only[rowX,List.getElem_map,za4 hk,List.map_cons,List.map_nil]
theorem okX_take (t:DTerrain) (n:DNetwork) (bs:List DBand) (p:DProtected) {k:Nat} (hk:k<n.sectors.length):(n.sectors.take (k+1)).all (zeh t n bs p)=((n.sectors.take k).all (zeh t n bs p)&&zeh t n bs p (zac n.sectors k)):=by rw[lw_take_succ _ _ hk,za4 hk]
theorem okX_not {t:DTerrain} {n:DNetwork} {bs:List DBand} {p:DProtected} {k:Nat} (hk:k<n.sectors.length) (h:zeh t n bs p (zac n.sectors k)=false):okX t n bs p=false:=lw_false_at hk (by rw[za4 hk];exact h)
theorem passX_not {t:DTerrain} {n:DNetwork} {bs:List DBand} {p:DProtected} {x:DSector} (h:useX bs x p=false):zeh t n bs p x=true:=by unfold zeh;rw[h];rfl
theorem passX_use {t:DTerrain} {n:DNetwork} {bs:List DBand} {p:DProtected} {x:DSector} (h:useX bs x p=true):zeh t n bs p x=zfa t n x p.at_:=by unfold zeh;rw[h];rfl
def excL (t:DTerrain) (n:DNetwork) (bs:List DBand) (p:DProtected):List ByteArray:=(n.sectors.filter fun x=>decide (p.limit<levX t n bs p x)).map DSector.name
def excR (t:DTerrain) (n:DNetwork) (bs:List DBand) (p:DProtected):List ByteArray × Int:=if (za1 t n bs p).2=0 then (excL t n bs p,0) else ([],(za1 t n bs p).2)
theorem levPl_ok {t:DTerrain} {n:DNetwork} {bs:List DBand} {p:DProtected} (h:(za1 t n bs p).2=0):za1 t n bs p=(rowX t n bs p,0):=by
 unfold za1 at *
 split
 ·rename_i h1
  rw[if_pos h1] at h
  split
  ·rename_i h2
   rw[if_pos h2] at h
   split
   ·rfl
   ·rename_i h3
    rw[if_neg h3] at h;omega
  ·rename_i h2
   rw[if_neg h2] at h;omega
 ·rename_i h1
  rw[if_neg h1] at h;omega
structure LevPlE (t:DTerrain) (n:DNetwork) (bs:List DBand) (p:DProtected):Prop where
 e1:zd6 t=false∨netB n=false∨zcd bs=false∨zcm p=false→za1 t n bs p=([],1)
 e2:zd6 t=true→netB n=true→zcd bs=true→zcm p=true→zcg t p.at_.place=false→za1 t n bs p=([],2)
 e3:zd6 t=true→netB n=true→zcd bs=true→zcm p=true→zcg t p.at_.place=true→okX t n bs p=false→za1 t n bs p=([],6)
 e4:zd6 t=true→netB n=true→zcd bs=true→zcm p=true→zcg t p.at_.place=true→okX t n bs p=true→za1 t n bs p=(rowX t n bs p,0)
theorem levPl_e (t:DTerrain) (n:DNetwork) (bs:List DBand) (p:DProtected):LevPlE t n bs p where
 e1:=fun h=>by
  unfold za1;rw[if_neg];rintro⟨x,y,z,u⟩;rw[x,y,z,u] at h;simp at h
 e2:=fun a b c d h=>by unfold za1;rw[if_pos ⟨a,b,c,d⟩,if_neg (by rw[h];decide)]
 e3:=fun a b c d h i=>by unfold za1;rw[if_pos ⟨a,b,c,d⟩,if_pos h,if_neg (by rw[i];decide)]
 e4:=fun a b c d h i=>by unfold za1;rw[if_pos ⟨a,b,c,d⟩,if_pos h,if_pos i]
set_option maxHeartbeats 8000000
set_option maxRecDepth 100000
theorem middle_any (x:DBand) (c:Int) (h1:0≤x.low) (h2:x.low≤100000000) (h3:0≤x.raster) (h4:x.raster≤100000) (h5:-1≤c) (h6:c≤1000) (w:World) :
  Calls Tryz.prog 79 #[.agg #[F x.name,I x.low,I x.high,I x.raster,I x.duplex],I c] w fun e w'=>e=.returned (I (x.low+c*x.raster+x.raster.tdiv 2))∧IJ w w w':=by
 obtain⟨h7,h8⟩:=mulC h5 h6 h3 h4;have ed:x.raster.tdiv 2=x.raster / 2:=Int.tdiv_eq_ediv_of_nonneg h3;have hd:0≤x.raster.tdiv 2∧x.raster.tdiv 2≤100000:=O
 obtain⟨W0,hW0,b0_,z0,k0⟩:=za2 w #[F x.name,I x.low,I x.high,I x.raster,I x.duplex] 123;have HW0:=J hW0;have B0:=J b0_;have HD:=J (fun (W:World) (hW:IJ W0 W0 W)=>by5 k0 hW);have HB:Hid (IJ W0 W0 W0):=Below.refl _ _;clear k0 hW0 b0_;have CB:Hid (∀ W:World,IJ W0 W0 W→Calls Tryz.prog 76 #[.agg #[F x.name,I x.low,I x.high,I x.raster,I x.duplex],I c] W fun e w'=>e=.returned (I (x.low+c*x.raster))∧IJ W W w'):=fun  W hW=>begin_any x c h1 h2 h3 h4 h5 h6 W
 obtain⟨hd0,hd1⟩:=hd;clear ed;go_enter Tryz.func79,Tryz.ntmps79;go_upto_region 1 with (fail);rw[HW0.out];obtain⟨t0,t1,t2,t3,t4⟩:=HD.out _ HB.out;have o0:=zak (w0:=W0) (show w.heap.size<W0.heap.size by have:=HB.out.size;omega);refine zab W0.heap.size W0 (Below.refl _ _) (by kernel_rfl) (by kernel_rfl) ?_
 repeat (go_big_quiet_step (first|(go_at_call 76;with_reducible exact zai (Nat.le_refl _) (CB.out _ (HB.out.trans ((zaa _ _ _).mono HB.out.size))))))
 refine wpQuiet_nil ?_;rintro _ ⟨X,rfl⟩;replace HB:=btr HB (zaa W0.heap.size W0 X);clear o0
 (try clear t0 t1 t2 t3 t4)
 generalize over W0.heap.size W0 X=u1 at *;obtain⟨t0,t1,t2,t3,t4⟩:=HD.out _ HB.out;go_wp2_with (fail);go_ret;exact⟨rfl,B0.out.trans (HB.out.mono B0.out.size)⟩
theorem l15Middle_any (x:DBand) (c:Int) (h1:0≤x.low) (h2:x.low≤100000000) (h3:0≤x.raster) (h4:x.raster≤100000) (h5:-1≤c) (h6:c≤1000) (b off:Nat) (w:World) (c1:w.cell? ⟨b,off+1,none⟩=some (I x.low)) (c3:w.cell? ⟨b,off+3,none⟩=some (I x.raster)) :
  Calls Tryz.prog 153 #[.pointer (some ⟨b,off,none⟩),I c] w fun e w'=>e=.returned (I (x.low+c*x.raster+x.raster.tdiv 2))∧IJ w w w':=by
 obtain⟨h7,h8⟩:=mulC h5 h6 h3 h4;have hb:b<w.heap.size:=za5 c1;have ed:x.raster.tdiv 2=x.raster / 2:=Int.tdiv_eq_ediv_of_nonneg h3;have hd:0≤x.raster.tdiv 2∧x.raster.tdiv 2≤100000:=O
 obtain⟨hd0,hd1⟩:=hd;clear ed;have B0:Hid (IJ w w w):=Below.refl _ _;have HD:Hid (∀ W:World,IJ w w W→(W.cell? ⟨b,off+1,none⟩=some (I x.low)∧W.cell? ⟨b,off+3,none⟩=some (I x.raster))):=fun W hW=>⟨(bat hW b _ O).trans c1,(bat hW b _ O).trans c3⟩
 have HB:Hid (IJ w w w):=Below.refl _ _;clear c1 c3;go_enter Tryz.func153,Tryz.ntmps153;obtain⟨t0,t1⟩:=HD.out _ HB.out;go_upto_region 1 with (fail);have o0:=zak (w0:=w) (show b<w.heap.size by have:=HB.out.size;omega);refine zab w.heap.size w (Below.refl _ _) (by kernel_rfl) (by kernel_rfl) ?_
 repeat (go_big_quiet_step (first|fail))
 refine wpQuiet_nil ?_;rintro _ ⟨X,rfl⟩;replace HB:=btr HB (zaa w.heap.size w X);clear o0
 (try clear t0 t1)
 generalize over w.heap.size w X=u2 at *;obtain⟨t0,t1⟩:=HD.out _ HB.out;go_wp2_with (fail);go_ret;exact⟨rfl,HB.out⟩
theorem l27Freq_any (n:DNetwork) (bs:List DBand) (p:DProtected) (hB:zcd bs=true) (k:Nat) (hk:k<n.sectors.length) (v1 vb:Value) (np pp:Nat) (w:World) (r1:Rd w w (DSector.sT n.sectors) v1) (rb:Rd w w (DBand.sT bs) vb) (l1:n.sectors.length≤1099511627776) (lb:bs.length≤1099511627776) (d1:w.cell? ⟨np,1,none⟩=some v1) (p4:w.cell? ⟨pp,4,none⟩=some (I p.low)) (p5:w.cell? ⟨pp,5,none⟩=some (I p.high)) :
  Calls Tryz.prog 116 #[.pointer (some ⟨np,0,none⟩),I (k:Int),vb,.pointer (some ⟨pp,0,none⟩)] w fun e w'=>e=.returned (I (freqX bs (zac n.sectors k) p))∧IJ w w w':=by
 have hnp:np<w.heap.size:=za5 d1;have hpp:pp<w.heap.size:=za5 p4;have i1:(0:Int)≤(k:Int):=O
 have i2:(k:Int)<(n.sectors.length:Int):=O
 have l1i:(n.sectors.length:Int)≤1099511627776:=O
 have lbi:(bs.length:Int)≤1099511627776:=O
 obtain⟨A1,C1,ev1,_,_,hcs⟩:=DSector.rd r1;subst ev1;obtain⟨b,off,rfl,hb,hat⟩:=hcs O;obtain⟨s0,s1,s2,s3,s4,s5,s6,s7,s8⟩:=hat k hk;rw[za4 hk] at s0 s1 s2 s3 s4 s5 s6 s7 s8;clear hat hcs;have HF1:Hid (hasX bs (zac n.sectors k)=false→freqX bs (zac n.sectors k) p=0):=fun h=>freqX_not (by unfold useX;rw[h];rfl)
 have HF2:Hid (useX bs (zac n.sectors k) p=false→freqX bs (zac n.sectors k) p=0):=fun h=>freqX_not h
 have HF3:Hid (useX bs (zac n.sectors k) p=true→freqX bs (zac n.sectors k) p=midX bs (zac n.sectors k)):=fun h=>freqX_use h
 have HMI:Hid (hasX bs (zac n.sectors k)=true→1≤midX bs (zac n.sectors k)∧midX bs (zac n.sectors k)≤100000000):=fun h=>mid_in hB h
 obtain⟨W0,hW0,b0_,z0,k0⟩:=za2 w #[F (zac n.sectors k).name,F (zac n.sectors k).site,F (zac n.sectors k).antenna,F (zac n.sectors k).radio,F (zac n.sectors k).band,I (zac n.sectors k).azimuth,I (zac n.sectors k).tilt,I (zac n.sectors k).above,I (zac n.sectors k).channel] 105;have HW0:=J hW0;have B0:=J b0_;have HD:=J (fun (W:World) (hW:IJ W0 W0 W)=>bx9 k0 hW <| aI ((bat hW pp _ O).trans ((bat b0_ pp _ O).trans p4)) <| ((bat hW pp _ O).trans ((bat b0_ pp _ O).trans p5)));have HB:Hid (IJ W0 W0 W0):=Below.refl _ _;clear k0 hW0 b0_;have CF:Hid (∀ W:World,IJ W0 W0 W→Calls Tryz.prog 151 #[vb,F (zac n.sectors k).band] W fun e w'=>e=.returned (I (zbu bs (zac n.sectors k).band))∧IJ W W w'):=fun  W hW=>zaq (l15Find_any bs _ vb w.heap.size W (rb.below (B0.out.trans (hW.mono B0.out.size))) (B0.out.trans (hW.mono B0.out.size)).size lb)
 by_cases h0:(zac n.sectors k).channel<0
 case pos =>
  have HE:=J (HF1.out (by unfold hasX;rw[show inB (zac n.sectors k).channel 0 (cntB (zc9 bs (zac n.sectors k))-1)=false by rw[inB_false];omega,Bool.and_false]));have dc:decide ((zac n.sectors k).channel<0)=true:=decide_eq_true h0;clear HF1 HF2 HF3 HMI r1 rb;generalize freqX bs (zac n.sectors k) p=FV at *;generalize zbu bs (zac n.sectors k).band=ix at *;generalize (zac n.sectors k)=x at *;go_enter Tryz.func116,Tryz.ntmps116;go_upto_region 2 with (fail);rw[HW0.out];obtain⟨t0,t1,t2,t3,t4,t5,t6,t7,t8,t9,t10⟩:=HD.out _ HB.out;go_wp2_with (first|(go_at_call 151;with_reducible refine (CF.out _ HB.out).mono ?_;rintro e v1 ⟨rfl,hb_⟩;(try clear t0 t1 t2 t3 t4 t5 t6 t7 t8 t9 t10);replace HB:=btr HB hb_;clear hb_;obtain⟨t0,t1,t2,t3,t4,t5,t6,t7,t8,t9,t10⟩:=HD.out _ HB.out));go_ret;exact⟨by rw[HE.out];rfl,B0.out.trans (HB.out.mono B0.out.size)⟩
 have dc:decide ((zac n.sectors k).channel<0)=false:=decide_eq_false h0
 by_cases h1:0≤zbu bs (zac n.sectors k).band
 case neg =>
  have HE:=J (HF1.out (by unfold hasX;rw[decide_eq_false h1,Bool.false_and]));have dx:decide (zbu bs (zac n.sectors k).band<0)=true:=decide_eq_true O;clear HF1 HF2 HF3 HMI r1 rb;generalize freqX bs (zac n.sectors k) p=FV at *;generalize zbu bs (zac n.sectors k).band=ix at *;generalize (zac n.sectors k)=x at *;go_enter Tryz.func116,Tryz.ntmps116;go_upto_region 2 with (fail);rw[HW0.out];obtain⟨t0,t1,t2,t3,t4,t5,t6,t7,t8,t9,t10⟩:=HD.out _ HB.out;go_wp2_with (first|(go_at_call 151;with_reducible refine (CF.out _ HB.out).mono ?_;rintro e v1 ⟨rfl,hb_⟩;(try clear t0 t1 t2 t3 t4 t5 t6 t7 t8 t9 t10);replace HB:=btr HB hb_;clear hb_;obtain⟨t0,t1,t2,t3,t4,t5,t6,t7,t8,t9,t10⟩:=HD.out _ HB.out));go_ret;exact⟨by rw[HE.out];rfl,B0.out.trans (HB.out.mono B0.out.size)⟩
 obtain⟨hl,hlc⟩:=idxBand_lt _ _ h1;have hvb:zbo (zc9 bs (zac n.sectors k))=true:=bandsB_at hB hl;obtain⟨Ab,Cb,evb,_,_,hcb⟩:=DBand.rd rb;subst evb;obtain⟨bb,ob,rfl,hbb,hatb⟩:=hcb O;obtain⟨u0,u1,u2,u3,u4⟩:=hatb _ hl;rw[zcl hl,show ze2 bs (zbu bs (zac n.sectors k).band).toNat=zc9 bs (zac n.sectors k) from rfl] at u0 u1 u2 u3 u4;clear hatb hcb;have HHX:Hid (hasX bs (zac n.sectors k)=inB (zac n.sectors k).channel 0 (cntB (zc9 bs (zac n.sectors k))-1)):=by show _=_;unfold hasX;rw[decide_eq_true h1,Bool.true_and]
 have HUX:Hid (useX bs (zac n.sectors k) p=(hasX bs (zac n.sectors k)&&(decide (p.low<lowX bs (zac n.sectors k)+(zc9 bs (zac n.sectors k)).raster)&&decide (lowX bs (zac n.sectors k)<p.high)))):=rfl;have HLX:Hid (lowX bs (zac n.sectors k)=(zc9 bs (zac n.sectors k)).low+(zac n.sectors k).channel*(zc9 bs (zac n.sectors k)).raster):=rfl;have HMX:Hid (midX bs (zac n.sectors k)=lowX bs (zac n.sectors k)+(zc9 bs (zac n.sectors k)).raster.tdiv 2):=rfl;have HCI:Hid (hasX bs (zac n.sectors k)=true→0≤(zac n.sectors k).channel∧(zac n.sectors k).channel≤cntB (zc9 bs (zac n.sectors k))-1):=fun h=>(hasX_true h).2
 have HLI:Hid (hasX bs (zac n.sectors k)=true→1≤lowX bs (zac n.sectors k)∧lowX bs (zac n.sectors k)+(zc9 bs (zac n.sectors k)).raster≤100000000):=fun h=>by
  have:=hasX_true h;have:=chan_in hvb this.2.1 this.2.2;exact⟨this.1,this.2.1⟩
 rw[← hlc] at CF;clear hlc h1 HF1 r1 rb;generalize freqX bs (zac n.sectors k) p=FV at *;generalize hq:(zbu bs (zac n.sectors k).band).toNat=q at *;have q0:(0:Int)≤(q:Int):=O
 have q1:(q:Int)<(bs.length:Int):=O
 have dq:decide ((q:Int)<0)=false:=decide_eq_false O;obtain⟨g1,g2,g3,g4,g5,g6,g7,g8⟩:=ze6 hvb;generalize hasX bs (zac n.sectors k)=HX at *;generalize useX bs (zac n.sectors k) p=UX at *;generalize lowX bs (zac n.sectors k)=LX at *;generalize midX bs (zac n.sectors k)=MX at *;have HVB:=J hvb;clear hvb hq;generalize zc9 bs (zac n.sectors k)=d at *;generalize (zac n.sectors k)=x at *;go_enter Tryz.func116,Tryz.ntmps116;go_upto_region 2 with (fail);rw[HW0.out];obtain⟨t0,t1,t2,t3,t4,t5,t6,t7,t8,t9,t10⟩:=HD.out _ HB.out;have vu0:=(bat B0.out bb _ hbb).trans u0;have vu1:=(bat B0.out bb _ hbb).trans u1;have vu2:=(bat B0.out bb _ hbb).trans u2;have vu3:=(bat B0.out bb _ hbb).trans u3;have vu4:=(bat B0.out bb _ hbb).trans u4;have HU:Hid (∀ W:World,IJ W0 W0 W→(W.cell? ⟨bb,ob+q*5,none⟩=some (F d.name)∧W.cell? ⟨bb,ob+q*5+1,none⟩=some (I d.low)∧W.cell? ⟨bb,ob+q*5+2,none⟩=some (I d.high)∧W.cell? ⟨bb,ob+q*5+3,none⟩=some (I d.raster)∧W.cell? ⟨bb,ob+q*5+4,none⟩=some (I d.duplex))):=fun W hW=>⟨(bat hW bb _ (by have:=B0.out.size;omega)).trans vu0,(bat hW bb _ (by have:=B0.out.size;omega)).trans vu1,(bat hW bb _ (by have:=B0.out.size;omega)).trans vu2,(bat hW bb _ (by have:=B0.out.size;omega)).trans vu3,(bat hW bb _ (by have:=B0.out.size;omega)).trans vu4⟩
 clear vu0 vu1 vu2 vu3 vu4 u0 u1 u2 u3 u4;go_upto_region 5 with (go_at_call 151;with_reducible refine (CF.out _ HB.out).mono ?_;rintro e v1 ⟨rfl,hb_⟩;(try clear t0 t1 t2 t3 t4 t5 t6 t7 t8 t9 t10);replace HB:=btr HB hb_;clear hb_;obtain⟨t0,t1,t2,t3,t4,t5,t6,t7,t8,t9,t10⟩:=HD.out _ HB.out);obtain⟨u0,u1,u2,u3,u4⟩:=HU.out _ HB.out;go_upto_region 6 with (fail);obtain⟨M,hM,bM_,zM,kM_⟩:=za2 v1 #[F d.name,I d.low,I d.high,I d.raster,I d.duplex] 123;rw[hM];have KM:=J kM_;have HBM:=btr HB bM_;have zM2:v1.heap.size<M.heap.size:=O
 have HDM:Hid (∀ W:World,IJ M M W→(W.cell? ⟨w,0,none⟩=some (F x.name)∧W.cell? ⟨w,1,none⟩=some (F x.site)∧W.cell? ⟨w,2,none⟩=some (F x.antenna)∧W.cell? ⟨w,3,none⟩=some (F x.radio)∧W.cell? ⟨w,4,none⟩=some (F x.band)∧W.cell? ⟨w,5,none⟩=some (I x.azimuth)∧W.cell? ⟨w,6,none⟩=some (I x.tilt)∧W.cell? ⟨w,7,none⟩=some (I x.above)∧W.cell? ⟨w,8,none⟩=some (I x.channel)∧W.cell? ⟨pp,4,none⟩=some (I p.low)∧W.cell? ⟨pp,5,none⟩=some (I p.high)∧W.cell? ⟨v1,0,none⟩=some (F d.name)∧W.cell? ⟨v1,1,none⟩=some (I d.low)∧W.cell? ⟨v1,2,none⟩=some (I d.high)∧W.cell? ⟨v1,3,none⟩=some (I d.raster)∧W.cell? ⟨v1,4,none⟩=some (I d.duplex))):=fun W hW=>by
  obtain⟨t0,t1,t2,t3,t4,t5,t6,t7,t8,t9,t10⟩:=HD.out W (HBM.out.trans (hW.mono HBM.out.size));exact⟨t0,t1,t2,t3,t4,t5,t6,t7,t8,t9,t10,bkW KM.out hW 0 rfl,bkW KM.out hW 1 rfl,bkW KM.out hW 2 rfl,bkW KM.out hW 3 rfl,bkW KM.out hW 4 rfl⟩
 clear kM_ bM_ hM u0 u1 u2 u3 u4 HU t0 t1 t2 t3 t4 t5 t6 t7 t8 t9 t10;have HB1:Hid (IJ M M M):=Below.refl _ _;clear HB HD;have HB:=HB1;have HD:=HDM;clear HB1 HDM;have zz:w.heap.size<M.heap.size:=by have:=HBM.out.size;omega
 have zp:pp<M.heap.size:=O
 have CH:Hid (∀ W:World,IJ M M W→Calls Tryz.prog 152 #[.pointer (some ⟨v1,0,none⟩),I x.channel] W fun e w'=>e=.returned (.bool HX)∧IJ W W w'):=fun  W hW=>by
   obtain⟨t0,t1,t2,t3,t4,t5,t6,t7,t8,t9,t10,y0,y1,y2,y3,y4⟩:=HD.out W hW;rw[HHX.out];exact l15Has_any d x.channel v1.heap.size 0 HVB.out W y0 y1 y2 y3 y4
 have CM:Hid (∀ (h:HX=true) (W:World),IJ M M W→Calls Tryz.prog 153 #[.pointer (some ⟨v1,0,none⟩),I x.channel] W fun e w'=>e=.returned (I MX)∧IJ W W w'):=fun h W hW=>by
   obtain⟨t0,t1,t2,t3,t4,t5,t6,t7,t8,t9,t10,y0,y1,y2,y3,y4⟩:=HD.out W hW;have hx:=HCI.out h;rw[HMX.out,HLX.out];exact l15Middle_any d x.channel O g2 O g6 O O v1.heap.size 0 W y1 y3
 obtain⟨t0,t1,t2,t3,t4,t5,t6,t7,t8,t9,t10,y0,y1,y2,y3,y4⟩:=HD.out _ HB.out
 cases hH:HX with
 | false =>
  rw[hH] at CH;have HE:=J (HF2.out (by rw[HUX.out,hH,Bool.false_and]));clear HF2 HF3 HMI HCI HLI CM hH;go_wp2_with (first|(go_at_call 152;with_reducible refine (CH.out _ HB.out).mono ?_;rintro e v2 ⟨rfl,hb_⟩;(try clear t0 t1 t2 t3 t4 t5 t6 t7 t8 t9 t10 y0 y1 y2 y3 y4);replace HB:=btr HB hb_;clear hb_;obtain⟨t0,t1,t2,t3,t4,t5,t6,t7,t8,t9,t10,y0,y1,y2,y3,y4⟩:=HD.out _ HB.out));go_ret;exact⟨by rw[HE.out];rfl,B0.out.trans (HBM.out.trans (HB.out.mono HBM.out.size) |>.mono B0.out.size)⟩
 | true =>
  rw[hH] at CH;obtain⟨hc0,hc1⟩:=HCI.out hH;obtain⟨hl0,hl1⟩:=HLI.out hH;have CMx:=J (CM.out hH);have hmi:=HMI.out hH;have HUY:Hid (UX=(decide (p.low<LX+d.raster)&&decide (LX<p.high))):=by show _=_;rw[HUX.out,hH,Bool.true_and]
  clear HMI HCI HLI CM HUX hH HHX;have hlx:=HLX.out;obtain⟨m7,m8⟩:=mulC (c:=x.channel) (r:=d.raster) O O O g6;go_upto_region 8 with (go_at_call 152;with_reducible refine (CH.out _ HB.out).mono ?_;rintro e v2 ⟨rfl,hb_⟩;(try clear t0 t1 t2 t3 t4 t5 t6 t7 t8 t9 t10 y0 y1 y2 y3 y4);replace HB:=btr HB hb_;clear hb_;obtain⟨t0,t1,t2,t3,t4,t5,t6,t7,t8,t9,t10,y0,y1,y2,y3,y4⟩:=HD.out _ HB.out);go_upto_region 9 with (fail);rw[← hlx];clear hlx m7 m8
  by_cases e1:p.high≤LX
  case pos =>
   have HE:=J (HF2.out (by rw[HUY.out,decide_eq_false (p:=LX<p.high) O,Bool.and_false]));have d2:decide (p.high≤LX)=true:=decide_eq_true e1;have o0:=zak (w0:=v2) (show v1.heap.size<v2.heap.size by have:=HB.out.size;omega);have o1:=zak (w0:=v2) (show pp<v2.heap.size by have:=HB.out.size;omega);refine zab v2.heap.size v2 (Below.refl _ _) (by kernel_rfl) (by kernel_rfl) ?_
   repeat (go_big_quiet_step (first|fail))
   refine wpQuiet_nil ?_;rintro _ ⟨X,rfl⟩;replace HB:=btr HB (zaa v2.heap.size v2 X);clear o0 o1
   (try clear t0 t1 t2 t3 t4 t5 t6 t7 t8 t9 t10 y0 y1 y2 y3 y4)
   generalize over v2.heap.size v2 X=u3 at *;obtain⟨t0,t1,t2,t3,t4,t5,t6,t7,t8,t9,t10,y0,y1,y2,y3,y4⟩:=HD.out _ HB.out;go_wp2_with (fail);go_ret;exact⟨by rw[HE.out];rfl,B0.out.trans (HBM.out.trans (HB.out.mono HBM.out.size) |>.mono B0.out.size)⟩
  have d2:decide (p.high≤LX)=false:=decide_eq_false e1
  by_cases e2:LX+d.raster≤p.low
  case pos =>
   have HE:=J (HF2.out (by rw[HUY.out,decide_eq_false (p:=p.low<LX+d.raster) O,Bool.false_and]));have d3:decide (LX+d.raster≤p.low)=true:=decide_eq_true e2;have o0:=zak (w0:=v2) (show v1.heap.size<v2.heap.size by have:=HB.out.size;omega);have o1:=zak (w0:=v2) (show pp<v2.heap.size by have:=HB.out.size;omega);refine zab v2.heap.size v2 (Below.refl _ _) (by kernel_rfl) (by kernel_rfl) ?_
   repeat (go_big_quiet_step (first|fail))
   refine wpQuiet_nil ?_;rintro _ ⟨X,rfl⟩;replace HB:=btr HB (zaa v2.heap.size v2 X);clear o0 o1
   (try clear t0 t1 t2 t3 t4 t5 t6 t7 t8 t9 t10 y0 y1 y2 y3 y4)
   generalize over v2.heap.size v2 X=u3 at *;obtain⟨t0,t1,t2,t3,t4,t5,t6,t7,t8,t9,t10,y0,y1,y2,y3,y4⟩:=HD.out _ HB.out;go_wp2_with (fail);go_ret;exact⟨by rw[HE.out];rfl,B0.out.trans (HBM.out.trans (HB.out.mono HBM.out.size) |>.mono B0.out.size)⟩
  have d3:decide (LX+d.raster≤p.low)=false:=decide_eq_false e2;have HE:=J (HF3.out (by rw[HUY.out,decide_eq_true (p:=p.low<LX+d.raster) O,decide_eq_true (p:=LX<p.high) O];rfl));have o0:=zak (w0:=v2) (show v1.heap.size<v2.heap.size by have:=HB.out.size;omega);have o1:=zak (w0:=v2) (show pp<v2.heap.size by have:=HB.out.size;omega);refine zab v2.heap.size v2 (Below.refl _ _) (by kernel_rfl) (by kernel_rfl) ?_
  repeat (go_big_quiet_step (first|fail))
  refine wpQuiet_nil ?_;rintro _ ⟨X,rfl⟩;replace HB:=btr HB (zaa v2.heap.size v2 X);clear o0 o1
  (try clear t0 t1 t2 t3 t4 t5 t6 t7 t8 t9 t10 y0 y1 y2 y3 y4)
  generalize over v2.heap.size v2 X=u3 at *;obtain⟨t0,t1,t2,t3,t4,t5,t6,t7,t8,t9,t10,y0,y1,y2,y3,y4⟩:=HD.out _ HB.out;go_wp2_with (first|(go_at_call 153;with_reducible refine (CMx.out _ HB.out).mono ?_;rintro e v4 ⟨rfl,hb_⟩;(try clear t0 t1 t2 t3 t4 t5 t6 t7 t8 t9 t10 y0 y1 y2 y3 y4);replace HB:=btr HB hb_;clear hb_;obtain⟨t0,t1,t2,t3,t4,t5,t6,t7,t8,t9,t10,y0,y1,y2,y3,y4⟩:=HD.out _ HB.out));go_ret;exact⟨by rw[HE.out];rfl,B0.out.trans (HBM.out.trans (HB.out.mono HBM.out.size) |>.mono B0.out.size)⟩
end Go.Proofs.YtgmapjgodibchaaGreatDoor
