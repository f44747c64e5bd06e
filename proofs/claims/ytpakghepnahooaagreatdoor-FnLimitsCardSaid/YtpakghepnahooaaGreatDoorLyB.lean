/- Contracts: the middle of a channel, for the program and for the reference; the frequency with which a sector reaches a protected range, for the reference. Conditions: valid bands. -/
import Derived.Test.YtpakghepnahooaaGreatDoorDw1
import Derived.Test.YtpakghepnahooaaGreatDoorBnd
set_option linter.unusedVariables false
set_option linter.unusedSimpArgs false
namespace Go.Proofs.YtpakghepnahooaaGreatDoor
theorem terrB_ok {t:DTerrain} (h:ze0 t=true):TerrOk t:=by
 unfold ze0 at h;simp only[Bool.and_eq_true,decide_eq_true_eq,beq_iff_eq] at h;obtain⟨hs,hl,hc,ha,hb⟩:=h;unfold sizeB at hs;simp only[Bool.and_eq_true,decide_eq_true_eq] at hs;obtain⟨h1,h2,h3,h4⟩:=hs;obtain⟨a0,a1⟩:=zau.1 h1;obtain⟨b0,b1⟩:=zau.1 h2;obtain⟨c0,c1⟩:=zau.1 h3;have m1:(t.width-1)*t.step≤max (t.width-1) (t.height-1)*t.step:=Int.mul_le_mul_of_nonneg_right II II;have m2:(t.height-1)*t.step≤max (t.width-1) (t.height-1)*t.step:=Int.mul_le_mul_of_nonneg_right II II;have m3:0≤(t.width-1)*t.step:=Int.mul_nonneg II II;have m4:0≤(t.height-1)*t.step:=Int.mul_nonneg II II;exact⟨a0,a1,b0,b1,c0,c1,⟨m3,II⟩,⟨m4,II⟩,hl,II,fun k=>all_gi ha II k,fun k=>all_gi hb II k⟩
def inTB (t:DTerrain) (p:DPoint):Bool:=inB p.x 0 ((t.width-1)*t.step)&&inB p.y 0 ((t.height-1)*t.step)
theorem inTB_true {t:DTerrain} {p:DPoint} : inTB t p=true↔inT t p:=by
 unfold inTB inT;rw[Bool.and_eq_true,zau,zau]
theorem endB_true {e:DEnd} : endB e=true↔ptB e.place∧endP e:=by
 unfold endB zcl ptB endP;rw[Bool.and_eq_true,Bool.and_eq_true,zau,zau,zau]
def samePB (p q:DPoint):Bool:=decide (p.x=q.x)&&decide (p.y=q.y)
theorem samePB_true {p q:DPoint} : samePB p q=true↔(p.x=q.x∧p.y=q.y):=by
 unfold samePB;rw[Bool.and_eq_true,decide_eq_true_eq,decide_eq_true_eq]
theorem samePB_false {p q:DPoint} : samePB p q=false↔¬ (p.x=q.x∧p.y=q.y):=by
 rw[← samePB_true];simp
def levI (t:DTerrain) (n:DNetwork) (x:DSector) (f:Int) (e:DEnd):Int :=
 eirpN n x (bearI (endR n x).place e.place) (pathE t (endR n x) e)-pathT t (endR n x) e f
def reachB (t:DTerrain) (n:DNetwork) (x:DSector) (e:DEnd):Bool:=inTB t (endR n x).place&&!samePB (endR n x).place e.place
theorem reachB_true {t:DTerrain} {n:DNetwork} {x:DSector} {e:DEnd} : reachB t n x e=true↔inT t (endR n x).place∧¬ ((endR n x).place.x=e.place.x∧(endR n x).place.y=e.place.y):=by
 unfold reachB;rw[Bool.and_eq_true,inTB_true,Bool.not_eq_true',samePB_false]
theorem sector_above {n:DNetwork} (h:netB n=true) {q:Nat} (hq:q<n.sectors.length):endP (endR n (zad n.sectors q)):=by
 obtain⟨ka,kr,hp⟩:=zev h hq;have hs:=hp.sec;unfold zag at hs;simp only[Bool.and_eq_true] at hs;exact zau.1 hs.2.2.2.2.2.2.2.1
end Go.Proofs.YtpakghepnahooaaGreatDoor
namespace Go.Proofs.YtpakghepnahooaaGreatDoor
open Go.RowKit
theorem lw_take_succ {α:Type} (p:α→Bool) (l:List α) {k:Nat} (hk:k<l.length):(l.take (k+1)).all p=((l.take k).all p&&p l[k]):=by
 rw[List.take_succ_eq_append_getElem hk,List.all_append];simp
theorem lw_false_at {α:Type} {p:α→Bool} {l:List α} {k:Nat} (hk:k<l.length) (h:p l[k]=false):l.all p=false:=by
 rw[List.all_eq_false];exact⟨l[k],List.getElem_mem hk,by rw[h];decide⟩
theorem netB_sectors {n:DNetwork} (h:netB n=true) (k:Nat) (hk:k<n.sectors.length):∃ ks,∃ hks:ks<n.sites.length,zb0 n.sites (zad n.sectors k).site=(ks:Int):=site_of_sector h hk
def zen (bs:List DBand) (x:DSector):DBand:=gBand bs (zcu bs x.band).toNat
def hasX (bs:List DBand) (x:DSector):Bool:=decide (0≤zcu bs x.band)&&inB x.channel 0 (cntB (zen bs x)-1)
def lowX (bs:List DBand) (x:DSector):Int:=(zen bs x).low+x.channel*(zen bs x).raster
def meetX (bs:List DBand) (x:DSector) (p:DProtected):Bool:=decide (p.low<lowX bs x+(zen bs x).raster)&&decide (lowX bs x<p.high)
def useX (bs:List DBand) (x:DSector) (p:DProtected):Bool:=hasX bs x&&meetX bs x p
def midX (bs:List DBand) (x:DSector):Int:=lowX bs x+(zen bs x).raster.tdiv 2
def levX (t:DTerrain) (n:DNetwork) (bs:List DBand) (p:DProtected) (x:DSector):Int:=if useX bs x p=true then max (levI t n x (midX bs x) p.at_) (-300000) else -300000
def rowX (t:DTerrain) (n:DNetwork) (bs:List DBand) (p:DProtected):List Int:=n.sectors.map (levX t n bs p)
def passX (t:DTerrain) (n:DNetwork) (bs:List DBand) (p:DProtected) (x:DSector):Bool:=!useX bs x p || reachB t n x p.at_
def okX (t:DTerrain) (n:DNetwork) (bs:List DBand) (p:DProtected):Bool:=n.sectors.all (passX t n bs p)
def zbj (t:DTerrain) (n:DNetwork) (bs:List DBand) (p:DProtected):List Int × Int :=
 if ze0 t=true∧netB n=true∧zdz bs=true∧zej p=true then
  (if zee t p.at_.place=true then (if okX t n bs p=true then (rowX t n bs p,0) else ([],6)) else ([],2)) else ([],1)
theorem bandsB_at {l:List DBand} (h:zdz l=true) {j:Nat} (hj:j<l.length):zcn (gBand l j)=true:=by
 unfold zdz at h;rw[Bool.and_eq_true] at h;rw[← zel hj];exact zdm h.2 hj
theorem protB_true {p:DProtected} (h:zej p=true):za4 p.name=true∧endB p.at_=true∧inB p.low 1 100000000=true∧inB p.high 1 100000000=true∧p.low<p.high∧inB p.limit (-300000) 300000=true:=by
 unfold zej at h
 simpa only[Bool.and_eq_true,decide_eq_true_eq] using h
theorem hasX_true {bs:List DBand} {x:DSector} (h:hasX bs x=true):0≤zcu bs x.band∧0≤x.channel∧x.channel≤cntB (zen bs x)-1:=by
 unfold hasX at h;rw[Bool.and_eq_true,decide_eq_true_eq,zau] at h;exact h
theorem chan_in {x:DBand} {c:Int} (hb:zcn x=true) (h0:0≤c) (h1:c≤cntB x-1):1≤x.low+c*x.raster∧x.low+c*x.raster+x.raster≤100000000∧1≤x.raster:=by
 obtain⟨f1,f2,f3,f4,f5,f6,f7,f8⟩:=bandB_facts hb;have e1:cntB x=(x.high-x.low) / x.raster:=Int.tdiv_eq_ediv_of_nonneg II;have e2:(x.high-x.low) / x.raster*x.raster≤x.high-x.low:=Int.ediv_mul_le _ II;have e3:c*x.raster≤(cntB x-1)*x.raster:=Int.mul_le_mul_of_nonneg_right h1 II;have e4:0≤c*x.raster:=Int.mul_nonneg h0 II;rw[← e1] at e2;rw[Int.sub_mul,Int.one_mul] at e3;omega
theorem mid_in {bs:List DBand} {x:DSector} (hb:zdz bs=true) (h:hasX bs x=true):1≤midX bs x∧midX bs x≤100000000:=by
 obtain⟨h0,h1,h2⟩:=hasX_true h;obtain⟨h3,h4⟩:=idxBand_lt _ _ h0;obtain⟨g1,g2,g3⟩:=chan_in (bandsB_at hb h3) h1 h2;have e:(zen bs x).raster.tdiv 2=(zen bs x).raster / 2:=Int.tdiv_eq_ediv_of_nonneg (by show 0≤(gBand bs (zcu bs x.band).toNat).raster;omega);unfold midX lowX;rw[e];unfold zen;omega
theorem useX_has {bs:List DBand} {x:DSector} {p:DProtected} (h:useX bs x p=true):hasX bs x=true:=by
 unfold useX at h;rw[Bool.and_eq_true] at h;exact h.1
theorem levX_use {t:DTerrain} {n:DNetwork} {bs:List DBand} {p:DProtected} {x:DSector} (h:useX bs x p=true):levX t n bs p x=max (levI t n x (midX bs x) p.at_) (-300000):=if_pos h
theorem levX_not {t:DTerrain} {n:DNetwork} {bs:List DBand} {p:DProtected} {x:DSector} (h:useX bs x p=false):levX t n bs p x = -300000:=if_neg (by rw[h];decide)
theorem zei (t:DTerrain) (n:DNetwork) (bs:List DBand) (p:DProtected):(rowX t n bs p).length=n.sectors.length:=by simp[rowX]
theorem rowX_take (t:DTerrain) (n:DNetwork) (bs:List DBand) (p:DProtected) {k:Nat} (hk:k<n.sectors.length):((rowX t n bs p).take (k+1)).map intT=((rowX t n bs p).take k).map intT++[intT (levX t n bs p (zad n.sectors k))]:=by
 have h:k<(rowX t n bs p).length:=by rw[zei];exact hk
 rw[List.take_succ_eq_append_getElem h,List.map_append];simp only[rowX,List.getElem_map,za6 hk,List.map_cons,List.map_nil]
theorem okX_take (t:DTerrain) (n:DNetwork) (bs:List DBand) (p:DProtected) {k:Nat} (hk:k<n.sectors.length):(n.sectors.take (k+1)).all (passX t n bs p)=((n.sectors.take k).all (passX t n bs p)&&passX t n bs p (zad n.sectors k)):=by rw[lw_take_succ _ _ hk,za6 hk]
theorem okX_not {t:DTerrain} {n:DNetwork} {bs:List DBand} {p:DProtected} {k:Nat} (hk:k<n.sectors.length) (h:passX t n bs p (zad n.sectors k)=false):okX t n bs p=false:=lw_false_at hk (by rw[za6 hk];exact h)
theorem passX_not {t:DTerrain} {n:DNetwork} {bs:List DBand} {p:DProtected} {x:DSector} (h:useX bs x p=false):passX t n bs p x=true:=by unfold passX;rw[h];rfl
theorem passX_use {t:DTerrain} {n:DNetwork} {bs:List DBand} {p:DProtected} {x:DSector} (h:useX bs x p=true):passX t n bs p x=reachB t n x p.at_:=by unfold passX;rw[h];rfl
def excL (t:DTerrain) (n:DNetwork) (bs:List DBand) (p:DProtected):List ByteArray:=(n.sectors.filter fun x=>decide (p.limit<levX t n bs p x)).map DSector.name
def excR (t:DTerrain) (n:DNetwork) (bs:List DBand) (p:DProtected):List ByteArray × Int:=if (zbj t n bs p).2=0 then (excL t n bs p,0) else ([],(zbj t n bs p).2)
theorem levPl_bad {t:DTerrain} {n:DNetwork} {bs:List DBand} {p:DProtected} (h:(zbj t n bs p).2≠0):zbj t n bs p=([],(zbj t n bs p).2):=by
 unfold zbj at *
 split
 ·rename_i h1
  rw[if_pos h1] at h
  split
  ·rename_i h2
   rw[if_pos h2] at h
   split
   ·rename_i h3
    rw[if_pos h3] at h;exact absurd rfl h
   ·rfl
  ·rfl
 ·rfl
theorem levPl_ok {t:DTerrain} {n:DNetwork} {bs:List DBand} {p:DProtected} (h:(zbj t n bs p).2=0):zbj t n bs p=(rowX t n bs p,0):=by
 unfold zbj at *
 split
 ·rename_i h1
  rw[if_pos h1] at h
  split
  ·rename_i h2
   rw[if_pos h2] at h
   split
   ·rfl
   ·rename_i h3
    rw[if_neg h3] at h;omega
  ·rename_i h2
   rw[if_neg h2] at h;omega
 ·rename_i h1
  rw[if_neg h1] at h;omega
structure LevPlE (t:DTerrain) (n:DNetwork) (bs:List DBand) (p:DProtected):Prop where
 e1:ze0 t=false∨netB n=false∨zdz bs=false∨zej p=false→zbj t n bs p=([],1)
 e2:ze0 t=true→netB n=true→zdz bs=true→zej p=true→zee t p.at_.place=false→zbj t n bs p=([],2)
 e3:ze0 t=true→netB n=true→zdz bs=true→zej p=true→zee t p.at_.place=true→okX t n bs p=false→zbj t n bs p=([],6)
 e4:ze0 t=true→netB n=true→zdz bs=true→zej p=true→zee t p.at_.place=true→okX t n bs p=true→zbj t n bs p=(rowX t n bs p,0)
theorem levPl_e (t:DTerrain) (n:DNetwork) (bs:List DBand) (p:DProtected):LevPlE t n bs p where
 e1:=fun h=>by
  unfold zbj;rw[if_neg];rintro⟨x,y,z,u⟩;rw[x,y,z,u] at h;simp at h
 e2:=fun a b c d h=>by unfold zbj;rw[if_pos ⟨a,b,c,d⟩,if_neg (by rw[h];decide)]
 e3:=fun a b c d h i=>by unfold zbj;rw[if_pos ⟨a,b,c,d⟩,if_pos h,if_neg (by rw[i];decide)]
 e4:=fun a b c d h i=>by unfold zbj;rw[if_pos ⟨a,b,c,d⟩,if_pos h,if_pos i]
set_option maxHeartbeats 4000000
set_option maxRecDepth 100000
theorem middle_any (x:DBand) (c:Int) (h1:0≤x.low) (h2:x.low≤100000000) (h3:0≤x.raster) (h4:x.raster≤100000) (h5:-1≤c) (h6:c≤1000) (w:World) :
  Calls Tryz.prog 55 #[.agg #[IQ x.name,J x.low,J x.high,J x.raster,J x.duplex],J c] w fun e w'=>e=.returned (J (x.low+c*x.raster+x.raster.tdiv 2))∧OI w w w':=by
 obtain⟨h7,h8⟩:=mulC h5 h6 h3 h4;have ed:x.raster.tdiv 2=x.raster / 2:=Int.tdiv_eq_ediv_of_nonneg h3;have hd:0≤x.raster.tdiv 2∧x.raster.tdiv 2≤100000:=II
 obtain⟨W0,hW0,b0_,z0,k0⟩:=zav w #[IQ x.name,J x.low,J x.high,J x.raster,J x.duplex] 102;have HW0:=IJ hW0;have B0:=IJ b0_;have HD:=IJ (fun (W:World) (hW:OI W0 W0 W)=>by5 k0 hW);have HB:Hid (OI W0 W0 W0):=Below.refl _ _;clear k0 hW0 b0_;have CB:Hid (∀ W:World,OI W0 W0 W→Calls Tryz.prog 52 #[.agg #[IQ x.name,J x.low,J x.high,J x.raster,J x.duplex],J c] W fun e w'=>e=.returned (J (x.low+c*x.raster))∧OI W W w'):=fun  W hW=>begin_any x c h1 h2 h3 h4 h5 h6 W
 obtain⟨hd0,hd1⟩:=hd;clear ed;go_enter Tryz.func55,Tryz.ntmps55;go_upto_region 1 with (fail);rw[HW0.out];obtain⟨t0,t1,t2,t3,t4⟩:=HD.out _ HB.out;have o0:=zam (w0:=W0) (show w.heap.size<W0.heap.size by have:=HB.out.size;omega);refine zab W0.heap.size W0 (Below.refl _ _) JI JI ?_
 repeat (go_big_quiet_step (first|(go_at_call 52;with_reducible exact zae (Nat.le_refl _) (CB.out _ (HB.out.trans ((zaa _ _ _).mono HB.out.size))))))
 refine wpQuiet_nil ?_;rintro _ ⟨X,rfl⟩;replace HB:=btr HB (zaa W0.heap.size W0 X);clear o0
 (try clear t0 t1 t2 t3 t4)
 generalize over W0.heap.size W0 X=u1 at *;obtain⟨t0,t1,t2,t3,t4⟩:=HD.out _ HB.out;go_wp2_with (fail);go_ret;exact⟨rfl,B0.out.trans (HB.out.mono B0.out.size)⟩
end Go.Proofs.YtpakghepnahooaaGreatDoor
