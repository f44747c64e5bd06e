/- Names that stand once in a network: plain laws. No program. -/
import Derived.Test.YtgmapjgodibchaaGreatDoorLvY
set_option linter.unusedVariables false
set_option linter.unusedSimpArgs false
namespace Go.Proofs.YtgmapjgodibchaaGreatDoor
open Go.RowKit
def pgI (n:DNetwork) (x:DSector):Int:=(za4 n.radios (zby n.radios x.radio).toNat).power-(za4 n.radios (zby n.radios x.radio).toNat).feeder+(zav n.antennas (zbi n.antennas x.antenna).toNat).gain
def gvI (t:DTerrain) (n:DNetwork) (x:DSector) (f:Int) (e:DEnd):Int:=if reachB t n x e=true then max (levI t n x f e) (-300000) else pgI n x
def ptG (t:DTerrain) (i:Nat):DPoint:=⟨(i:Int) % t.width*t.step,(i:Int) / t.width*t.step⟩
def za6 (t:DTerrain):Nat:=(t.width*t.height).toNat
def zcx (t:DTerrain) (n:DNetwork) (x:DSector) (f ab:Int):List Int:=(List.range (za6 t)).map fun i=>gvI t n x f ⟨ptG t i,ab⟩
theorem ze8 (t:DTerrain) (n:DNetwork) (x:DSector) (f ab:Int):(zcx t n x f ab).length=za6 t:=by simp[zcx]
theorem gridL_take (t:DTerrain) (n:DNetwork) (x:DSector) (f ab:Int) {i:Nat} (hi:i<za6 t):(zcx t n x f ab).take (i+1)=(zcx t n x f ab).take i++[gvI t n x f ⟨ptG t i,ab⟩]:=by
 have h:i<(zcx t n x f ab).length:=by rw[ze8];exact hi
 rw[List.take_succ_eq_append_getElem h];simp[zcx]
theorem zez {t:DTerrain} (T:TerrOk t):za6 t=t.width.toNat*t.height.toNat∧za6 t≤576∧((za6 t:Nat):Int)=t.width*t.height:=by
 obtain⟨W,hW⟩:=Int.eq_ofNat_of_zero_le (show 0≤t.width by have:=T.w0;omega);obtain⟨H,hH⟩:=Int.eq_ofNat_of_zero_le (show 0≤t.height by have:=T.h0;omega);have a:=T.w1;have b:=T.h1;unfold za6;rw[hW,hH] at *;have e:((W:Int)*(H:Int)).toNat=W*H:=by rw[← Int.natCast_mul,Int.toNat_natCast]
 have hle:W*H≤24*24:=Nat.mul_le_mul O O;refine⟨by rw[e];simp,by rw[e];exact hle,by rw[e,Int.natCast_mul]⟩
theorem ptG_at {t:DTerrain} (T:TerrOk t) {y c:Nat} (hc:(c:Int)<t.width) (hy:(y:Int)<t.height):ptG t (y*t.width.toNat+c)=⟨(c:Int)*t.step,(y:Int)*t.step⟩∧y*t.width.toNat+c<za6 t∧y*t.width.toNat+t.width.toNat≤za6 t:=by
 have hw:0<t.width:=by have:=T.w0;omega
 obtain⟨W,hW⟩:=Int.eq_ofNat_of_zero_le (show 0≤t.width by omega);obtain⟨H,hH⟩:=Int.eq_ofNat_of_zero_le (show 0≤t.height by have:=T.h0;omega);have g:=(zez T).1;rw[g];rw[hW] at hc hw;rw[hH] at hy;have hcW:c<W:=O
 have hyH:y+1≤H:=O
 have hle:(y+1)*W≤H*W:=Nat.mul_le_mul_right _ hyH;rw[Nat.succ_mul] at hle;have hcm:H*W=W*H:=Nat.mul_comm _ _;unfold ptG;rw[hW,hH,Int.toNat_natCast,Int.toNat_natCast];have e1:((y*W+c:Nat):Int) % (W:Int)=(c:Int):=by
  rw[← Int.natCast_emod,Nat.add_comm,Nat.add_mul_mod_self_right,Nat.mod_eq_of_lt hcW]
 have e2:((y*W+c:Nat):Int) / (W:Int)=(y:Int):=by
  rw[← Int.natCast_ediv,Nat.add_comm,Nat.add_mul_div_right _ _ O,Nat.div_eq_of_lt hcW,Nat.zero_add]
 exact⟨by rw[e1,e2],O,O⟩
theorem grid_inT {t:DTerrain} (T:TerrOk t) {y c:Nat} (hc:(c:Int)<t.width) (hy:(y:Int)<t.height):inT t ⟨(c:Int)*t.step,(y:Int)*t.step⟩:=by
 have s:=T.s0;exact⟨⟨Int.mul_nonneg O O,Int.mul_le_mul_of_nonneg_right O O⟩,⟨Int.mul_nonneg O O,Int.mul_le_mul_of_nonneg_right O O⟩⟩
theorem pgI_eq {n:DNetwork} {x:DSector} {ka kr:Nat} (h:Parts n x ka kr):pgI n x=(za4 n.radios kr).power-(za4 n.radios kr).feeder+(zav n.antennas ka).gain:=by
 unfold pgI;rw[h.ir,h.ia,Int.toNat_natCast,Int.toNat_natCast]
theorem pgI_bd {n:DNetwork} {x:DSector} {ka kr:Nat} (h:Parts n x ka kr):-300000≤pgI n x∧pgI n x≤300000:=by
 rw[pgI_eq h];have hr:=zdw h.rok;have ha:=ant_gain h.ok;omega
set_option maxHeartbeats 16000000
set_option maxRecDepth 100000
theorem iGrid_any (t:DTerrain) (n:DNetwork) (x:DSector) (f ab:Int) (T:TerrOk t) (v0 v1 v2 v3 v4 v5:Value) (pa:inT t (endR n x).place) (ea:endP (endR n x)) (eb:1≤ab∧ab≤3000) (k:Nat) (hk:k<n.sites.length) (hi:zb9 n.sites x.site=(k:Int)) (ka kr:Nat) (hp:Parts n x ka kr) (l0:n.sites.length≤1099511627776) (l2:n.antennas.length≤1099511627776) (l3:n.radios.length≤1099511627776) (f0:1≤f) (f1:f≤100000000) (w:World) (r0:Rd w w (DSite.sT n.sites) v0) (r2:Rd w w (DAntenna.sT n.antennas) v2) (r3:Rd w w (DRadio.sT n.radios) v3) (r4:Rd w w (zai t.heights) v4) (r5:Rd w w (zai t.clutter) v5) (L:TabW w) :
  Calls Tryz.prog 58 #[.agg #[v0,v1,v2,v3],.agg #[I t.step,I t.width,I t.height,v4,v5],.agg #[F x.name,F x.site,F x.antenna,F x.radio,F x.band,I x.azimuth,I x.tilt,I x.above,I x.channel],I f,I ab] w fun e w'=>∃ (a':Option Addr) (c':Nat) (fp:List Nat),e=.returned (II a' (zcx t n x f ab).length c')∧IJ w w w'∧Own w' (zai (zcx t n x f ab)) (II a' (zcx t n x f ab).length c') fp∧In w w'.heap.size fp:=by
 obtain⟨i0,hi0,hz0,hz1,hz2⟩:=info_parts infoI;have hra:=(zdw hp.rok).1;have hrf:=(zdw hp.rok).2;have hga:=ant_gain hp.ok;have HPG:=J (pgI_eq hp);obtain⟨ar,cr,er,_,_,hclr⟩:=DRadio.rd r3;obtain⟨br,ofr,ear,hbr,hatr⟩:=hclr (by have:=hp.lr;omega);subst ear;have hlr:=hp.lr;obtain⟨-,-,-,-,-,⟨um,hsm,rum⟩⟩:=hatr kr hlr;obtain⟨am,cm,eum,_,_,_⟩:=DMode.rd rum;subst eum;rw[zbo hlr] at hsm;obtain⟨a,c,ee,_,_,hcl⟩:=DAntenna.rd r2;have hka:=hp.la;obtain⟨b,off,ea_,hbl,hat⟩:=hcl O;subst ea_ ee;obtain⟨s0,s1,⟨u2,s2,ru2⟩,⟨u3,s3,ru3⟩⟩:=hat ka hka;rw[zbf hka] at s0 s1 ru2 ru3;obtain⟨ah,ch,e2,_,_,_⟩:=ru2.ints;obtain⟨av,cv,e3,_,_,_⟩:=ru3.ints;subst e2 e3;have hia:=hp.ia;obtain⟨W0,hW0,b0_,z0,k0,k1,k2⟩:=boxes3 w #[v0,v1,II (some ⟨b,off,none⟩) n.antennas.length c,v3] 44 #[I t.step,I t.width,I t.height,v4,v5] 37 #[F x.name,F x.site,F x.antenna,F x.radio,F x.band,I x.azimuth,I x.tilt,I x.above,I x.channel] 105;have HW0:=J hW0;have B0:=J b0_;have HD:=J (fun (W:World) (hW:IJ W0 W0 W)=>bx4 k0 hW <| bx5 k1 hW <| by9 k2 hW);have HB:Hid (IJ W0 W0 W0):=Below.refl _ _;clear k0 k1 k2 hW0 b0_;have CR:Hid (∀ (q:DEnd) (W:World),IJ W0 W0 W→Calls Tryz.prog 77 #[.agg #[v0,v1,II (some ⟨b,off,none⟩) n.antennas.length c,v3],.agg #[I t.step,I t.width,I t.height,v4,v5],.agg #[F x.name,F x.site,F x.antenna,F x.radio,F x.band,I x.azimuth,I x.tilt,I x.above,I x.channel],.agg #[I q.place.x,I q.place.y,I q.above]] W fun e w'=>e=.returned (.bool (reachB t n x q))∧IJ W W w'):=fun q W hW=>iReach_any t n x q T v0 v1 _ v3 v4 v5 k hk hi l0 W ((r0.below (B0.out.trans (hW.mono B0.out.size))).mono (B0.out.trans (hW.mono B0.out.size)).size)
 have CL:Hid (∀ q:DEnd,inT t q.place→endP q→¬ ((endR n x).place.x=q.place.x∧(endR n x).place.y=q.place.y)→∀ W:World,IJ W0 W0 W→Calls Tryz.prog 78 #[.agg #[v0,v1,II (some ⟨b,off,none⟩) n.antennas.length c,v3],.agg #[I t.step,I t.width,I t.height,v4,v5],.agg #[F x.name,F x.site,F x.antenna,F x.radio,F x.band,I x.azimuth,I x.tilt,I x.above,I x.channel],I f,.agg #[I q.place.x,I q.place.y,I q.above]] W fun e w'=>e=.returned (I (levI t n x f q))∧IJ W W w'):=fun q h1 h2 h3 W hW=>iLevel_any t n x q T v0 v1 _ v3 v4 v5 pa h1 ea h2 h3 k hk hi ka kr hp l0 l2 l3 f f0 f1 W ((r0.below (B0.out.trans (hW.mono B0.out.size))).mono (B0.out.trans (hW.mono B0.out.size)).size) ((r2.below (B0.out.trans (hW.mono B0.out.size))).mono (B0.out.trans (hW.mono B0.out.size)).size) ((r3.below (B0.out.trans (hW.mono B0.out.size))).mono (B0.out.trans (hW.mono B0.out.size)).size) ((r4.below (B0.out.trans (hW.mono B0.out.size))).mono (B0.out.trans (hW.mono B0.out.size)).size) ((r5.below (B0.out.trans (hW.mono B0.out.size))).mono (B0.out.trans (hW.mono B0.out.size)).size) (L.mono (B0.out.trans (hW.mono B0.out.size)))
 have CN:Hid (∀ W:World,IJ W0 W0 W→Calls Tryz.prog 108 #[.agg #[v0,v1,II (some ⟨b,off,none⟩) n.antennas.length c,v3],F x.antenna] W fun e w'=>e=.returned (I (ka:Int))∧IJ W W w'):=fun W hW=>by
  have:=zd9 n.antennas x.antenna v0 v1 _ v3 w.heap.size W (r2.below (B0.out.trans (hW.mono B0.out.size))) ((B0.out.trans (hW.mono B0.out.size))).size l2;rw[hia] at this;exact this
 have CA:Hid (∀ W:World,IJ W0 W0 W→Calls Tryz.prog 107 #[.agg #[v0,v1,II (some ⟨b,off,none⟩) n.antennas.length c,v3],.agg #[F x.name,F x.site,F x.antenna,F x.radio,F x.band,I x.azimuth,I x.tilt,I x.above,I x.channel]] W fun e w'=>e=.returned (.agg #[F (za4 n.radios kr).name,I (za4 n.radios kr).power,I (za4 n.radios kr).feeder,I (za4 n.radios kr).noise,I (za4 n.radios kr).width,II am (za4 n.radios kr).modes.length cm])∧IJ W W w'):=fun W hW=>iRadio_any n x v0 v1 _ v3 W ((r3.below (B0.out.trans (hW.mono B0.out.size))).mono (B0.out.trans (hW.mono B0.out.size)).size) l3 kr hp.lr hp.ir br ofr cr cm am er (by have:=((B0.out.trans (hW.mono B0.out.size))).size;omega) ((bat (B0.out.trans (hW.mono B0.out.size)) br _ hbr).trans hsm)
 have HAN:Hid (∀ W:World,IJ W0 W0 W→W.cell? ⟨b,off+ka*4,none⟩=some (F (zav n.antennas ka).name)∧W.cell? ⟨b,off+ka*4+1,none⟩=some (I (zav n.antennas ka).gain)∧W.cell? ⟨b,off+ka*4+2,none⟩=some (II ah (zav n.antennas ka).horizontal.length ch)∧W.cell? ⟨b,off+ka*4+3,none⟩=some (II av (zav n.antennas ka).vertical.length cv)):=fun W hW=>⟨(bat (B0.out.trans (hW.mono B0.out.size)) b _ hbl).trans s0,(bat (B0.out.trans (hW.mono B0.out.size)) b _ hbl).trans s1,(bat (B0.out.trans (hW.mono B0.out.size)) b _ hbl).trans s2,(bat (B0.out.trans (hW.mono B0.out.size)) b _ hbl).trans s3⟩
 have HIT:Hid (∀ y c:Nat,(c:Int)<t.width→(y:Int)<t.height→inT t ⟨(c:Int)*t.step,(y:Int)*t.step⟩):=fun y c h1 h2=>grid_inT T h1 h2
 have HAT:Hid (∀ y c:Nat,(c:Int)<t.width→(y:Int)<t.height→ptG t (y*t.width.toNat+c)=⟨(c:Int)*t.step,(y:Int)*t.step⟩∧y*t.width.toNat+c<za6 t∧y*t.width.toNat+t.width.toNat≤za6 t):=fun y c h1 h2=>ptG_at T h1 h2
 have HTK:Hid (∀ i,i<za6 t→(zcx t n x f ab).take (i+1)=(zcx t n x f ab).take i++[gvI t n x f ⟨ptG t i,ab⟩]):=fun i h=>gridL_take t n x f ab h
 have HGN:=J (zez T);have HGL:=J (ze8 t n x f ab);have HGV:Hid (∀ q:DEnd,reachB t n x q=true→gvI t n x f q=max (levI t n x f q) (-300000)):=fun q h=>by show _=_;rw[gvI,if_pos h]
 have HGF:Hid (∀ q:DEnd,reachB t n x q=false→gvI t n x f q=pgI n x):=fun q h=>by show _=_;rw[gvI,if_neg (by rw[h];decide)]
 have hw0:=T.w0;have hw1:=T.w1;have hh0:=T.h0;have hh1:=T.h1;have hmw:=T.mw;have hmh:=T.mh;have hbW:b<W0.heap.size:=by have:=B0.out.size;omega
 have ka0:(0:Int)≤(ka:Int):=O
 have ka1:(ka:Int)<(n.antennas.length:Int):=O
 clear T pa ea hi hk hp r0 r2 r3 r4 r5 L hia hcl hat ru2 ru3 s0 s1 s2 s3 hclr hatr rum hsm er hka;generalize za4 n.radios kr=R at *;generalize zav n.antennas ka=A at *;go_enter Tryz.func58,Tryz.ntmps58;go_upto_region 1 with (fail);rw[HW0.out];obtain⟨t0,t1,t2,t3,t4,t5,t6,t7,t8,t9,t10,t11,t12,t13,t14,t15,t16,t17⟩:=HD.out _ HB.out;go_wp2;clear t0 t1 t2 t3 t4 t5 t6 t7 t8 t9 t10 t11 t12 t13 t14 t15 t16 t17;go_loopw [11,19] (fun lv yi wr=>∃ (y:Nat),(y:Int)≤t.height∧yi=I (y:Int)∧IJ W0 W0 wr∧Grow wr W0.heap.size 2 1 lv (y*t.width.toNat) (((zcx t n x f ab).take (y*t.width.toNat)).map intT) []) (fun _ yi wr=>t.height.toNat-(intOf yi).toNat)
 case atStart=>exact⟨0,O,rfl,HB.out,by simpa using Grow.nil⟩
 case round =>
  clear HB;obtain⟨y,hy,rfl,hb,hg⟩:=hrel;have HB:=J hb;have HG:=J hg;clear hb hg
  by_cases hlt:(y:Int)<t.height
  ·obtain⟨t0,t1,t2,t3,t4,t5,t6,t7,t8,t9,t10,t11,t12,t13,t14,t15,t16,t17⟩:=HD.out _ HB.out
   go_wp2_with (fail);clear t0 t1 t2 t3 t4 t5 t6 t7 t8 t9 t10 t11 t12 t13 t14 t15 t16 t17;generalize wr=wo at *;go_loopw [11,24] (fun lv ci wr=>∃ (c:Nat),(c:Int)≤t.width∧ci=I (c:Int)∧IJ W0 W0 wr∧Grow wr W0.heap.size 2 1 lv (y*t.width.toNat+c) (((zcx t n x f ab).take (y*t.width.toNat+c)).map intT) []) (fun _ ci wr=>t.width.toNat-(intOf ci).toNat)
   case atStart=>exact⟨0,O,rfl,HB.out,by simpa using HG.out⟩
   case round =>
    clear HB HG;obtain⟨c',hc,rfl,hb,hg⟩:=hrel;have HB:=J hb;have HG:=J hg;clear hb hg
    by_cases hlt2:(c':Int)<t.width
    ·have hIT:=HIT.out y c' hlt2 hlt
     obtain⟨hAT,hAN,hAM⟩:=HAT.out y c' hlt2 hlt;have HTKc:=J (HTK.out _ hAN);have hn576:=HGN.out.2.1;rw[hAT] at HTKc;obtain⟨⟨hx0,hx1⟩,hy0,hy1⟩:=hIT;have HPI:Hid (inT t ⟨(c':Int)*t.step,(y:Int)*t.step⟩):=⟨⟨hx0,hx1⟩,hy0,hy1⟩
     dsimp only at hx0 hx1 hy0 hy1
     obtain⟨t0,t1,t2,t3,t4,t5,t6,t7,t8,t9,t10,t11,t12,t13,t14,t15,t16,t17⟩:=HD.out _ HB.out;have i1:IntKind.i64.wrap ((c':Int)*t.step)=(c':Int)*t.step:=IntWalk.i64_in _ O;have i2:IntKind.i64.wrap ((y:Int)*t.step)=(y:Int)*t.step:=IntWalk.i64_in _ O;go_upto_region 9 with (fail);clear i1 i2 t0 t1 t2 t3 t4 t5 t6 t7 t8 t9 t10 t11 t12 t13 t14 t15 t16 t17;have bE:=za2 wr (.cells #[I ((c':Int)*t.step),I ((y:Int)*t.step),I ab] 68);have KE:=J (bkN wr #[I ((c':Int)*t.step),I ((y:Int)*t.step),I ab] 68);have HGE:=J (HG.out.below (lo:=0) In.nil bE);have HBE:Hid (IJ W0 W0 (wr.alloc (.cells #[I ((c':Int)*t.step),I ((y:Int)*t.step),I ab] 68))):=HB.out.trans (bE.mono HB.out.size);have zE:wr.heap.size<(wr.alloc (.cells #[I ((c':Int)*t.step),I ((y:Int)*t.step),I ab] 68)).heap.size:=by simp
     clear bE HG HB hAT;generalize hq:(⟨⟨(c':Int)*t.step,(y:Int)*t.step⟩,ab⟩:DEnd)=q at *;have hqx:(c':Int)*t.step=q.place.x:=by rw[← hq]
     have hqy:(y:Int)*t.step=q.place.y:=by rw[← hq]
     have hqa:ab=q.above:=by rw[← hq]
     have HQI:Hid (inT t q.place):=by rw[← hq];exact HPI.out
     have HQE:Hid (endP q):=by show endP q;rw[← hq];exact eb
     rw[hqx,hqy] at KE HGE HBE zE;rw[hqx,hqy];clear hq HPI hx0 hx1 hy0 hy1;have HQA:=J hqa;rw[hqa] at KE HGE HBE zE
     conv in (World.alloc _ _)=>rw[hqa]
     clear hqx hqy hqa;generalize wr.alloc (.cells #[I q.place.x,I q.place.y,I q.above] 68)=M at *;have KEM:=J (fun (W:World) (hW:IJ M M W)=>(⟨bkC (bkB KE.out hW zE) 0 rfl,bkC (bkB KE.out hW zE) 1 rfl,bkC (bkB KE.out hW zE) 2 rfl⟩:W.cell? ⟨wr,0,none⟩=some (I q.place.x)∧W.cell? ⟨wr,1,none⟩=some (I q.place.y)∧W.cell? ⟨wr,2,none⟩=some (I q.above)));have HB:=HBE;have BM0:Hid (IJ M M M):=Below.refl _ _;obtain⟨y0,y1,y2⟩:=KEM.out _ BM0.out;obtain⟨t0,t1,t2,t3,t4,t5,t6,t7,t8,t9,t10,t11,t12,t13,t14,t15,t16,t17⟩:=HD.out _ HB.out
     cases hR:reachB t n x q with
     | true =>
      have HRT:=J (HGV.out q hR);have hnd:=(reachB_true.1 hR).2;have CLq:=J (CL.out q HQI.out HQE.out hnd);have CRq:=J (CR.out q);rw[hR] at CRq;clear hR hnd;go_wp2_with (first|(go_at_call 77;with_reducible refine (CRq.out _ HB.out).mono ?_;rintro e u1 ⟨rfl,hb_⟩;(have HGu:=J (HGE.out.below (lo:=0) In.nil hb_));(have BM1:=J hb_);(have HB1:=btr HB hb_);clear hb_ y0 y1 y2 t0 t1 t2 t3 t4 t5 t6 t7 t8 t9 t10 t11 t12 t13 t14 t15 t16 t17;obtain⟨y0,y1,y2⟩:=KEM.out _ BM1.out;obtain⟨t0,t1,t2,t3,t4,t5,t6,t7,t8,t9,t10,t11,t12,t13,t14,t15,t16,t17⟩:=HD.out _ HB1.out)|(go_at_call 78;with_reducible refine (CLq.out _ HB1.out).mono ?_;rintro e u2 ⟨rfl,hb_⟩;(have HGv:=J (HGu.out.below (lo:=0) In.nil hb_));(have HB2:=btr HB1 hb_);clear hb_ y0 y1 y2 t0 t1 t2 t3 t4 t5 t6 t7 t8 t9 t10 t11 t12 t13 t14 t15 t16 t17)|(at_builtin;(with_reducible show wpList _ _ _ _ _ (World.alloc _ _));refine zbe rfl (.tmp 43) (.tmp 51) _ rfl W0.heap.size 2 i0 _ 1 8 Tryz.underlying22 hi0 hz0 hz1 hz2 rfl O _ _ _ [] rfl HGv.out [I (max (levI t n x f q) (-300000))] [intT (max (levI t n x f q) (-300000))] [] rfl 1 rfl (fun u hu=>by simp at hu;subst hu;rfl) (RepV.lits [I (max (levI t n x f q) (-300000))]) List.nodup_nil (fun b h=>by simp at h) 0 In.nil In.nil (by simp) (by simp) (by unfold maxLen;omega) O (by have:=HB2.out.size;omega) ?_;intro v7 w7 hgn;have HGA:=J hgn;clear hgn));go_roundw
      case rel =>
       refine⟨c' + 1,O,by go_num,HB2.out.trans HGA.out.below,?_⟩;rw[show y*t.width.toNat+(c' + 1)=y*t.width.toNat+c' + 1 by omega,HTKc.out,List.map_append,HRT.out];have hg:=HGA.out.grow;rw[← HQA.out] at hg;exact hg
      case measure=>simp[intOf];omega
     | false =>
      have HRF:=J ((HGF.out q hR).trans HPG.out);have CRq:=J (CR.out q);rw[hR] at CRq;clear hR;go_upto_region 11 with (go_at_call 77;with_reducible refine (CRq.out _ HB.out).mono ?_;rintro e u1 ⟨rfl,hb_⟩;(have HGu:=J (HGE.out.below (lo:=0) In.nil hb_));(have HB1:=btr HB hb_);clear hb_ y0 y1 y2 t0 t1 t2 t3 t4 t5 t6 t7 t8 t9 t10 t11 t12 t13 t14 t15 t16 t17);clear KEM BM0 KE CL CR CRq HGE;generalize u1=U at *;have HBW:Hid (∀ W:World,IJ U U W→IJ W0 W0 W):=fun W h=>HB1.out.trans (h.mono HB1.out.size)
      have HK:Hid (∀ W:World,IJ U U W→W.cell? ⟨w,0,none⟩=some (v0)∧W.cell? ⟨w,1,none⟩=some (v1)∧W.cell? ⟨w,2,none⟩=some (II (some ⟨b,off,none⟩) n.antennas.length c)∧W.cell? ⟨w,3,none⟩=some (v3)∧W.cell? ⟨w.heap.size+1+1,0,none⟩=some (F x.name)∧W.cell? ⟨w.heap.size+1+1,1,none⟩=some (F x.site)∧W.cell? ⟨w.heap.size+1+1,2,none⟩=some (F x.antenna)∧W.cell? ⟨w.heap.size+1+1,3,none⟩=some (F x.radio)∧W.cell? ⟨w.heap.size+1+1,4,none⟩=some (F x.band)∧W.cell? ⟨w.heap.size+1+1,5,none⟩=some (I x.azimuth)∧W.cell? ⟨w.heap.size+1+1,6,none⟩=some (I x.tilt)∧W.cell? ⟨w.heap.size+1+1,7,none⟩=some (I x.above)∧W.cell? ⟨w.heap.size+1+1,8,none⟩=some (I x.channel)∧W.cell? ⟨b,off+ka*4,none⟩=some (F A.name)∧W.cell? ⟨b,off+ka*4+1,none⟩=some (I A.gain)∧W.cell? ⟨b,off+ka*4+2,none⟩=some (II ah A.horizontal.length ch)∧W.cell? ⟨b,off+ka*4+3,none⟩=some (II av A.vertical.length cv)):=fun W h=>by
       obtain⟨t0,t1,t2,t3,t4,t5,t6,t7,t8,t9,t10,t11,t12,t13,t14,t15,t16,t17⟩:=HD.out W (HBW.out W h);obtain⟨r0,r1,r2,r3⟩:=HAN.out W (HBW.out W h);exact⟨t0,t1,t2,t3,t9,t10,t11,t12,t13,t14,t15,t16,t17,r0,r1,r2,r3⟩
      have u11:w.heap.size<U.heap.size:=by have:=HB1.out.size;have:=z0;omega
      have u12:w.heap.size+1<U.heap.size:=by have:=HB1.out.size;have:=z0;omega
      have u13:w.heap.size+1+1<U.heap.size:=by have:=HB1.out.size;have:=z0;omega
      have u14:b<U.heap.size:=by have:=HB1.out.size;omega
      have xx1:U.heap.size<U.heap.size+1+1:=O
      have hcf:=HK.out U (Below.refl _ _);clear zE;go_cut [15,16] (fun s15 s16 wx=>∃ g h:Nat,s15=.pointer (some ⟨g,0,none⟩)∧s16=.pointer (some ⟨h,0,none⟩)∧wx.cell? ⟨g,1,none⟩=some (I R.power)∧wx.cell? ⟨g,2,none⟩=some (I R.feeder)∧wx.cell? ⟨h,1,none⟩=some (I A.gain)∧IJ U U wx)
      case first =>
       go_region_held3 (fun W=>W.cell? ⟨w,0,none⟩=some (v0)∧W.cell? ⟨w,1,none⟩=some (v1)∧W.cell? ⟨w,2,none⟩=some (II (some ⟨b,off,none⟩) n.antennas.length c)∧W.cell? ⟨w,3,none⟩=some (v3)∧W.cell? ⟨w.heap.size+1+1,0,none⟩=some (F x.name)∧W.cell? ⟨w.heap.size+1+1,1,none⟩=some (F x.site)∧W.cell? ⟨w.heap.size+1+1,2,none⟩=some (F x.antenna)∧W.cell? ⟨w.heap.size+1+1,3,none⟩=some (F x.radio)∧W.cell? ⟨w.heap.size+1+1,4,none⟩=some (F x.band)∧W.cell? ⟨w.heap.size+1+1,5,none⟩=some (I x.azimuth)∧W.cell? ⟨w.heap.size+1+1,6,none⟩=some (I x.tilt)∧W.cell? ⟨w.heap.size+1+1,7,none⟩=some (I x.above)∧W.cell? ⟨w.heap.size+1+1,8,none⟩=some (I x.channel)∧W.cell? ⟨b,off+ka*4,none⟩=some (F A.name)∧W.cell? ⟨b,off+ka*4+1,none⟩=some (I A.gain)∧W.cell? ⟨b,off+ka*4+2,none⟩=some (II ah A.horizontal.length ch)∧W.cell? ⟨b,off+ka*4+3,none⟩=some (II av A.vertical.length cv)) (exact HK.out _ (by repeat (first|(with_reducible exact K3.out)|(with_reducible exact K2.out)|(with_reducible exact Below.refl _ _)|(with_reducible refine Below.setCell ?_ (by first|exact Nat.le_refl _|(dsimp only;omega)|(simp<;>omega)) _)|(with_reducible refine Below.alloc ?_ (by first|exact Nat.le_refl _|omega|(simp;done)|(simp<;>omega)) _)|(with_reducible refine Below.drew ?_)))) (first|(go_at_call 107;refine (CA.out _ (HBW.out _ (by repeat (first|(with_reducible exact Below.refl _ _)|(with_reducible refine Below.setCell ?_ (by first|exact Nat.le_refl _|(dsimp only;omega)|(simp<;>omega)) _)|(with_reducible refine Below.alloc ?_ (by first|exact Nat.le_refl _|omega|(simp;done)|(simp<;>omega)) _)|(with_reducible refine Below.drew ?_))))).mono ?_;rintro e' w2 ⟨rfl,hb2⟩;have K2:Hid (IJ U U w2):=Below.trans (by repeat (first|(with_reducible exact Below.refl _ _)|(with_reducible refine Below.setCell ?_ (by first|exact Nat.le_refl _|(dsimp only;omega)|(simp<;>omega)) _)|(with_reducible refine Below.alloc ?_ (by first|exact Nat.le_refl _|omega|(simp;done)|(simp<;>omega)) _)|(with_reducible refine Below.drew ?_))) (hb2.mono (by first|exact Nat.le_refl _|omega|(simp;done)|(simp<;>omega)));have yz2:U.heap.size≤w2.heap.size:=K2.out.size;have hs2:=hb2.size;(try simp at hs2);(try have p21:U.heap.size<w2.heap.size:=O);(try have p22:U.heap.size+1<w2.heap.size:=O);have xx2:w2.heap.size<w2.heap.size+1+1:=O;have p23:U.heap.size<w2.heap.size+1:=O;have p24:U.heap.size<w2.heap.size+1+1:=O;(try have p25:U.heap.size+1<w2.heap.size+1:=O);obtain⟨qq2,qf2⟩:=bcell hb2;clear hb2)|(go_at_call 108;refine (CN.out _ (HBW.out _ (by repeat (first|(with_reducible exact K2.out)|(with_reducible exact Below.refl _ _)|(with_reducible refine Below.setCell ?_ (by first|exact Nat.le_refl _|(dsimp only;omega)|(simp<;>omega)) _)|(with_reducible refine Below.alloc ?_ (by first|exact Nat.le_refl _|omega|(simp;done)|(simp<;>omega)) _)|(with_reducible refine Below.drew ?_))))).mono ?_;rintro e' w3 ⟨rfl,hb3⟩;have K3:Hid (IJ U U w3):=Below.trans (by repeat (first|(with_reducible exact K2.out)|(with_reducible exact Below.refl _ _)|(with_reducible refine Below.setCell ?_ (by first|exact Nat.le_refl _|(dsimp only;omega)|(simp<;>omega)) _)|(with_reducible refine Below.alloc ?_ (by first|exact Nat.le_refl _|omega|(simp;done)|(simp<;>omega)) _)|(with_reducible refine Below.drew ?_))) (hb3.mono (by first|exact Nat.le_refl _|omega|(simp;done)|(simp<;>omega)));have yz3:w2.heap.size≤w3.heap.size:=(by have hh:=hb3.size;first|exact hh|(simp at hh;omega));have hs3:=hb3.size;(try simp at hs3);(try have p31:U.heap.size<w3.heap.size:=O);(try have p32:U.heap.size+1<w3.heap.size:=O);(try have p33:w2.heap.size<w3.heap.size:=O);(try have p34:w2.heap.size+1<w3.heap.size:=O);obtain⟨qq3,qf3⟩:=bcell hb3;clear hb3))
       all_goals (go_wp2_with fail;go_meet)
       all_goals refine⟨_,_,rfl,rfl,?_,?_,?_,(by repeat (first|(with_reducible exact K3.out)|(with_reducible exact K2.out)|(with_reducible exact Below.refl _ _)|(with_reducible refine Below.setCell ?_ (by first|exact Nat.le_refl _|(dsimp only;omega)|(simp<;>omega)) _)|(with_reducible refine Below.alloc ?_ (by first|exact Nat.le_refl _|omega|(simp;done)|(simp<;>omega)) _)|(with_reducible refine Below.drew ?_)))⟩
       all_goals first|(simp[go_sem, *];done)|(simp[go_sem,cell_set_same, *];done)|(simp[zac];omega)|(simp only[zac];omega)|(simp[go_sem, *];omega)
      case rest =>
       obtain⟨g,h,rfl,rfl,m0,m1,m2,hBx⟩:=hcut;generalize wc=U2 at *;have HB2:=J (HBW.out U2 hBx);have HGv:=J (HGu.out.below (lo:=0) In.nil hBx);clear hcf hBx HK HBW u11 u12 u13 u14 xx1;obtain⟨hra0,hra1⟩:=hra;obtain⟨hrf0,hrf1⟩:=hrf;obtain⟨hga0,hga1⟩:=hga;go_wp2_with (at_builtin;(with_reducible show wpList _ _ _ _ _ (World.alloc _ _));refine zbe rfl (.tmp 64) (.tmp 73) _ rfl W0.heap.size 2 i0 _ 1 8 Tryz.underlying22 hi0 hz0 hz1 hz2 rfl O _ _ _ [] rfl HGv.out [I (R.power-R.feeder+A.gain)] [intT (R.power-R.feeder+A.gain)] [] rfl 1 rfl (fun u hu=>by simp at hu;subst hu;rfl) (RepV.lits [I (R.power-R.feeder+A.gain)]) List.nodup_nil (fun b h=>by simp at h) 0 In.nil In.nil (by simp) (by simp) (by unfold maxLen;omega) O (by have:=HB2.out.size;omega) ?_;intro v7 w7 hgn;have HGA:=J hgn;clear hgn);go_roundw
       case rel =>
        refine⟨c' + 1,O,by go_num,HB2.out.trans HGA.out.below,?_⟩;rw[show y*t.width.toNat+(c' + 1)=y*t.width.toNat+c' + 1 by omega,HTKc.out,List.map_append,HRF.out];have hg:=HGA.out.grow;rw[← HQA.out] at hg;exact hg
       case measure=>simp[intOf];omega
    ·have hcW:c' = t.width.toNat:=O
     have hgw:=HG.out;rw[hcW,← Nat.succ_mul] at hgw;have HGW:=J hgw;clear hgw;clear hcW;go_wp2_with (fail);go_roundw
     case rel=>exact⟨y+1,O,by go_num,HB.out,HGW.out⟩
     case measure=>simp[intOf];omega
  ·have hN:y*t.width.toNat=za6 t:=by rw[HGN.out.1,show y=t.height.toNat by omega,Nat.mul_comm]
   have hg:=HG.out;rw[hN,List.take_of_length_le (by rw[HGL.out];exact Nat.le_refl _)] at hg;obtain⟨av,cv,fv,ev,ov,iv⟩:=hg.toOwn (lo:=W0.heap.size) O In.nil (Nat.le_refl _);subst ev;have OV:=J ov;have IV:=J iv;clear hg ov iv hN HG;go_wp2_with (fail);go_ret;refine⟨av,cv,by rw[HGL.out];rfl,B0.out.trans (HB.out.mono B0.out.size),fv,?_,IV.out.mono (by have:=B0.out.size;omega) (Nat.le_refl _)⟩;rw[HGL.out];exact OV.out
set_option maxHeartbeats 4000000
set_option maxRecDepth 100000
def ask20 (t:DTerrain) (n:DNetwork) (f ab:Int):Int:=if zc6 t=true∧netB n=true then (if inB f 1 100000000=true∧inB ab 1 3000=true then 0 else 2) else 1
theorem l20Ask_any (t:DTerrain) (n:DNetwork) (f ab:Int) (v0 v1 v2 v3 v4 v5:Value) (pt po np:Nat) (m4:t.heights.length≤1099511627776) (m5:t.clutter.length≤1099511627776) (hs:sizL n.tr≤1099511627776) (hk:n.ok) (w:World) (r0:Rd w w (DSite.sT n.sites) v0) (r1:Rd w w (DSector.sT n.sectors) v1) (r2:Rd w w (DAntenna.sT n.antennas) v2) (r3:Rd w w (DRadio.sT n.radios) v3) (r4:Rd w w (zai t.heights) v4) (r5:Rd w w (zai t.clutter) v5) (hnp:np<w.heap.size) (c0:w.cell? ⟨pt,po,none⟩=some (I t.step)) (c1:w.cell? ⟨pt,po+1,none⟩=some (I t.width)) (c2:w.cell? ⟨pt,po+2,none⟩=some (I t.height)) (c3:w.cell? ⟨pt,po+3,none⟩=some (v4)) (c4:w.cell? ⟨pt,po+4,none⟩=some (v5)) (d0:w.cell? ⟨np,0,none⟩=some (v0)) (d1:w.cell? ⟨np,1,none⟩=some (v1)) (d2:w.cell? ⟨np,2,none⟩=some (v2)) (d3:w.cell? ⟨np,3,none⟩=some (v3)) :
  Calls Tryz.prog 40 #[.pointer (some ⟨pt,po,none⟩),.pointer (some ⟨np,0,none⟩),I f,I ab] w fun e w'=>e=.returned (I (ask20 t n f ab))∧IJ w w w':=by
 have hpt:pt<w.heap.size:=zbh c0;have B0:Hid (IJ w w w):=Below.refl _ _;have HB:Hid (IJ w w w):=Below.refl _ _;have CT:Hid (∀ W:World,IJ w w W→Calls Tryz.prog 86 #[.pointer (some ⟨pt,po,none⟩)] W fun e w'=>e=.returned (.bool (zc6 t))∧IJ W W w'):=fun  W hW=>l04Ok_any t v4 v5 pt po w.heap.size W (r4.below (B0.out.trans (hW.mono B0.out.size))) (r5.below (B0.out.trans (hW.mono B0.out.size))) ((B0.out.trans (hW.mono B0.out.size))).size ((bat (B0.out.trans (hW.mono B0.out.size)) pt _ hpt).trans c0) ((bat (B0.out.trans (hW.mono B0.out.size)) pt _ hpt).trans c1) ((bat (B0.out.trans (hW.mono B0.out.size)) pt _ hpt).trans c2) ((bat (B0.out.trans (hW.mono B0.out.size)) pt _ hpt).trans c3) ((bat (B0.out.trans (hW.mono B0.out.size)) pt _ hpt).trans c4) m4 m5
 have CV:Hid (∀ W:World,IJ w w W→Calls Tryz.prog 87 #[.pointer (some ⟨np,0,none⟩)] W fun e w'=>e=.returned (.bool (netB n))∧IJ W W w'):=fun  W hW=>l14Ok_any n v0 v1 v2 v3 np W ((r0.below (B0.out.trans (hW.mono B0.out.size))).mono (B0.out.trans (hW.mono B0.out.size)).size) ((r1.below (B0.out.trans (hW.mono B0.out.size))).mono (B0.out.trans (hW.mono B0.out.size)).size) ((r2.below (B0.out.trans (hW.mono B0.out.size))).mono (B0.out.trans (hW.mono B0.out.size)).size) ((r3.below (B0.out.trans (hW.mono B0.out.size))).mono (B0.out.trans (hW.mono B0.out.size)).size) (Nat.lt_of_lt_of_le hnp (B0.out.trans (hW.mono B0.out.size)).size) ((bat (B0.out.trans (hW.mono B0.out.size)) np _ hnp).trans d0) ((bat (B0.out.trans (hW.mono B0.out.size)) np _ hnp).trans d1) ((bat (B0.out.trans (hW.mono B0.out.size)) np _ hnp).trans d2) ((bat (B0.out.trans (hW.mono B0.out.size)) np _ hnp).trans d3) hs hk
 have CF:Hid (∀ W:World,IJ w w W→Calls Tryz.prog 88 #[I f] W fun e w'=>e=.returned (.bool (inB f 1 100000000))∧IJ W W w'):=fun  W hW=>zam (l09Freq_any f W)
 have CA:Hid (∀ W:World,IJ w w W→Calls Tryz.prog 89 #[I ab,I 1,I 3000] W fun e w'=>e=.returned (.bool (inB ab 1 3000))∧IJ W W w'):=fun  W hW=>zam (zaq _ _ _ _)
 have HE0:Hid (ask20 t n f ab=if zc6 t=true∧netB n=true then (if inB f 1 100000000=true∧inB ab 1 3000=true then 0 else 2) else 1):=rfl;clear r0 r1 r2 r3 r4 r5 c0 c1 c2 c3 c4 d0 d1 d2 d3 hk hs m4 m5;generalize ask20 t n f ab=RV at *;generalize zc6 t=bt at *;generalize netB n=bn at *;generalize inB f 1 100000000=bf at *;generalize inB ab 1 3000=ba at *
 cases bt with
 | false =>
  have HE:Hid (RV=1):=by show _=_;rw[HE0.out];simp
  clear HE0;go_enter Tryz.func40,Tryz.ntmps40;go_wp2_with ((first|(go_at_call 86;with_reducible refine (CT.out _ HB.out).mono ?_)|(go_at_call 87;with_reducible refine (CV.out _ HB.out).mono ?_)|(go_at_call 88;with_reducible refine (CF.out _ HB.out).mono ?_)|(go_at_call 89;with_reducible refine (CA.out _ HB.out).mono ?_));rintro e v1 ⟨rfl,hb_⟩;replace HB:=btr HB hb_;clear hb_);go_ret;exact⟨by rw[HE.out];rfl,HB.out⟩
 | true =>
  cases bn with
  | false =>
   have HE:Hid (RV=1):=by show _=_;rw[HE0.out];simp
   clear HE0;go_enter Tryz.func40,Tryz.ntmps40;go_wp2_with ((first|(go_at_call 86;with_reducible refine (CT.out _ HB.out).mono ?_)|(go_at_call 87;with_reducible refine (CV.out _ HB.out).mono ?_)|(go_at_call 88;with_reducible refine (CF.out _ HB.out).mono ?_)|(go_at_call 89;with_reducible refine (CA.out _ HB.out).mono ?_));rintro e v1 ⟨rfl,hb_⟩;replace HB:=btr HB hb_;clear hb_);go_ret;exact⟨by rw[HE.out];rfl,HB.out⟩
  | true =>
   cases bf with
   | false =>
    have HE:Hid (RV=2):=by show _=_;rw[HE0.out];simp
    clear HE0;go_enter Tryz.func40,Tryz.ntmps40;go_wp2_with ((first|(go_at_call 86;with_reducible refine (CT.out _ HB.out).mono ?_)|(go_at_call 87;with_reducible refine (CV.out _ HB.out).mono ?_)|(go_at_call 88;with_reducible refine (CF.out _ HB.out).mono ?_)|(go_at_call 89;with_reducible refine (CA.out _ HB.out).mono ?_));rintro e v1 ⟨rfl,hb_⟩;replace HB:=btr HB hb_;clear hb_);go_ret;exact⟨by rw[HE.out];rfl,HB.out⟩
   | true =>
    cases ba with
    | false =>
     have HE:Hid (RV=2):=by show _=_;rw[HE0.out];simp
     clear HE0;go_enter Tryz.func40,Tryz.ntmps40;go_wp2_with ((first|(go_at_call 86;with_reducible refine (CT.out _ HB.out).mono ?_)|(go_at_call 87;with_reducible refine (CV.out _ HB.out).mono ?_)|(go_at_call 88;with_reducible refine (CF.out _ HB.out).mono ?_)|(go_at_call 89;with_reducible refine (CA.out _ HB.out).mono ?_));rintro e v1 ⟨rfl,hb_⟩;replace HB:=btr HB hb_;clear hb_);go_ret;exact⟨by rw[HE.out];rfl,HB.out⟩
    | true =>
     have HE:Hid (RV=0):=by show _=_;rw[HE0.out];simp
     clear HE0;go_enter Tryz.func40,Tryz.ntmps40;go_wp2_with ((first|(go_at_call 86;with_reducible refine (CT.out _ HB.out).mono ?_)|(go_at_call 87;with_reducible refine (CV.out _ HB.out).mono ?_)|(go_at_call 88;with_reducible refine (CF.out _ HB.out).mono ?_)|(go_at_call 89;with_reducible refine (CA.out _ HB.out).mono ?_));rintro e v1 ⟨rfl,hb_⟩;replace HB:=btr HB hb_;clear hb_);go_ret;exact⟨by rw[HE.out];rfl,HB.out⟩
theorem l20Home_any (t:DTerrain) (n:DNetwork) (j:Nat) (hj:j<n.sectors.length) (hnm:zbg n.sectors (zab n.sectors j).name=(j:Int)) (T:TerrOk t) (hV:netB n=true) (v0 v1 v2 v3 v4 v5:Value) (pt po np:Nat) (hs:sizL n.tr≤1048576) (hk:n.ok) (hz_:(zab n.sectors j).name.size≤1048576) (w:World) (r0:Rd w w (DSite.sT n.sites) v0) (r1:Rd w w (DSector.sT n.sectors) v1) (r2:Rd w w (DAntenna.sT n.antennas) v2) (r3:Rd w w (DRadio.sT n.radios) v3) (hnp:np<w.heap.size) (c0:w.cell? ⟨pt,po,none⟩=some (I t.step)) (c1:w.cell? ⟨pt,po+1,none⟩=some (I t.width)) (c2:w.cell? ⟨pt,po+2,none⟩=some (I t.height)) (c3:w.cell? ⟨pt,po+3,none⟩=some (v4)) (c4:w.cell? ⟨pt,po+4,none⟩=some (v5)) (d0:w.cell? ⟨np,0,none⟩=some (v0)) (d1:w.cell? ⟨np,1,none⟩=some (v1)) (d2:w.cell? ⟨np,2,none⟩=some (v2)) (d3:w.cell? ⟨np,3,none⟩=some (v3)) :
  Calls Tryz.prog 42 #[.pointer (some ⟨pt,po,none⟩),.pointer (some ⟨np,0,none⟩),I (j:Int)] w fun e w'=>e=.returned (.bool (zc9 t (endR n (zab n.sectors j)).place))∧IJ w w w':=by
 have hpt:pt<w.heap.size:=zbh c0;obtain⟨A1,C1,ev1,_,_,hcs⟩:=DSector.rd r1;subst ev1;obtain⟨bs,os,rfl,hbs,hats⟩:=hcs O;obtain⟨s0,s1,s2,s3,-⟩:=hats j hj;rw[za5 hj] at s0 s1 s2 s3;have l1i:(n.sectors.length:Int)≤1099511627776:=by
  have hq:=DNetwork.siz_tr n;rw[DSite.siz_s,DSector.siz_s,DAntenna.siz_s,DRadio.siz_s] at hq;omega
 have j0:(0:Int)≤(j:Int):=O
 have j1:(j:Int)<(n.sectors.length:Int):=O
 have B0:Hid (IJ w w w):=Below.refl _ _;have HD:Hid (∀ W:World,IJ w w W→(W.cell? ⟨np,0,none⟩=some (v0)∧W.cell? ⟨np,1,none⟩=some (II (some ⟨bs,os,none⟩) n.sectors.length C1)∧W.cell? ⟨np,2,none⟩=some (v2)∧W.cell? ⟨np,3,none⟩=some (v3)∧W.cell? ⟨bs,os+j*9,none⟩=some (F (zab n.sectors j).name))):=fun W hW=>⟨(bat hW np _ O).trans d0,(bat hW np _ O).trans d1,(bat hW np _ O).trans d2,(bat hW np _ O).trans d3,(bat hW bs _ O).trans s0⟩
 have HB:Hid (IJ w w w):=Below.refl _ _;have CE:Hid (∀ W:World,IJ w w W→Calls Tryz.prog 90 #[.agg #[v0,II (some ⟨bs,os,none⟩) n.sectors.length C1,v2,v3],F (zab n.sectors j).name] W fun e w'=>e=.returned (.tuple #[.agg #[I (endR n (zab n.sectors j)).place.x,I (endR n (zab n.sectors j)).place.y,I (endR n (zab n.sectors j)).above],I 0])∧IJ W W w'):=fun W hW=>by
  have:=sEndOf_std n (zab n.sectors j).name v0 _ v2 v3 W ((r0.below hW).mono hW.size) ((r1.below hW).mono hW.size) ((r2.below hW).mono hW.size) ((r3.below hW).mono hW.size) hs hk hz_;rw[hnm] at this;unfold pickR at this;rw[if_pos hV,if_pos j0,Int.toNat_natCast] at this;exact this
 have CI:Hid (∀ W:World,IJ w w W→Calls Tryz.prog 91 #[.pointer (some ⟨pt,po,none⟩),.agg #[I (endR n (zab n.sectors j)).place.x,I (endR n (zab n.sectors j)).place.y]] W fun e w'=>e=.returned (.bool (zc9 t (endR n (zab n.sectors j)).place))∧IJ W W w'):=fun  W hW=>l04In_any t _ pt po ⟨T.w0,T.w1⟩ ⟨T.h0,T.h1⟩ ⟨T.mw.1,Int.le_trans T.mw.2 (by decide)⟩ ⟨T.mh.1,Int.le_trans T.mh.2 (by decide)⟩ W ((bat (B0.out.trans (hW.mono B0.out.size)) pt _ hpt).trans c0) ((bat (B0.out.trans (hW.mono B0.out.size)) pt _ hpt).trans c1) ((bat (B0.out.trans (hW.mono B0.out.size)) pt _ hpt).trans c2)
 clear r0 r1 r2 r3 T hV hk hs hz_ hnm hats hcs s1 s2 s3;generalize zc9 t (endR n (zab n.sectors j)).place=RV at *;generalize endR n (zab n.sectors j)=ER at *;generalize (zab n.sectors j)=S at *;go_enter Tryz.func42,Tryz.ntmps42;go_upto_region 1 with (fail);go_cut [7] (fun s7 wx=>∃ g:Nat,s7=.pointer (some ⟨g,0,none⟩)∧wx.heap[g]? = some (.cells #[I ER.place.x,I ER.place.y,I ER.above] 68 (0,0))∧IJ w w wx∧g<wx.heap.size)
 case first =>
  refine zap 17 (.read 0 (.read 1 (.read 2 (.read 3 (.read 4 (.read 5 (.read 6 (.read 7 (.read 8 (.read 9 (.read 10 (.two 11 15 (.read 12 (.read 13 (.read 14 (.one 15 (.one 16 .nil))))) (.one 11 (.read 12 (.read 13 (.read 14 (.one 16 .nil))))))))))))))))) (fun W=>IJ w w W) OJ OJ (HB.out.drew) ?_;have YB:=J (HB.out.drew);have Yz:w.heap.size≤w.drew.heap.size:=Nat.le_refl _;generalize w.drew=Y at *
  iterate 11
   refine zag (v:=?_) rfl (fun _ _ _ h=>h) ?_ ?_
   rotate_left
   ·(intro W hSW;(try dsimp only at hSW);obtain⟨t0,t1,t2,t3,t4⟩:=HD.out W hSW;(go_simp<;>with_reducible rfl))
   (try simp only[Act.put,IQ,IZ,OI])
  refine za0 ?_ ?_;refine zae rfl (fun K hK=>?_);go_simp;refine (CE.out _ YB.out).mono ?_;rintro e Y1 ⟨rfl,hb1⟩;have YB1:=btr YB hb1;refine hK.out _ _ YB1.out ?_;clear hK K;have bs1:=hb1.size;clear hb1
  iterate 3
   refine zag (v:=?_) rfl (fun _ _ _ h=>h) ?_ ?_
   rotate_left
   ·(intro W hSW;(try dsimp only at hSW);obtain⟨t0,t1,t2,t3,t4⟩:=HD.out W hSW;(go_simp<;>with_reducible rfl))
   (try simp only[Act.put,IQ,IZ,OI])
  refine zaf ?_;refine zae rfl (fun K hK=>?_);go_simp;obtain⟨Y2,hW2,hb2,zl2,hk2⟩:=zax Y1 #[I 0,I 0,I 0] 68;rw[hW2];have Ykq2:=J hk2;have YB2:=btr YB1 hb2;refine hK.out _ _ YB2.out ?_;have bs2:=hb2.size;clear hK K hW2 hk2 hb2;refine zaf ?_;refine zae rfl (fun K hK=>?_);obtain⟨g0,g1,g2,fz⟩:=bz3 Ykq2.out;go_simp;obtain⟨Y3,hW3,Ykq3,bs3,ho3,hl3⟩:=zca Ykq2 [I ER.place.x,I ER.place.y,I ER.above] rfl;simp only[zb1] at hW3;rw[hW3];have YB3:=J (hl3.out w (by have:=YB2.out.size;omega) YB2.out);refine hK.out _ _ YB3.out ?_;clear hK K fz hW3 ho3 hl3 g0 g1 g2;refine zak ?_
  try simp only[List.drop_succ_cons,List.drop_zero]
  go_wp2_with fail;go_meet;exact⟨_,rfl,Ykq3.out,YB3.out,O⟩;refine zae rfl (fun K hK=>?_);go_simp;obtain⟨Y4,hW4,hb4,zl4,hk4⟩:=zax Y #[I 0,I 0,I 0] 68;rw[hW4];have Ykq4:=J hk4;have YB4:=btr YB hb4;refine hK.out _ _ YB4.out ?_;have bs4:=hb4.size;clear hK K hW4 hk4 hb4;refine zaf ?_;refine zae rfl (fun K hK=>?_);go_simp;refine (CE.out _ YB4.out).mono ?_;rintro e Y5 ⟨rfl,hb5⟩;have YB5:=btr YB4 hb5;refine hK.out _ _ YB5.out ?_;clear hK K;have bs5:=hb5.size;have Ykq5:=bkH Ykq4 hb5;clear hb5
  iterate 3
   refine zag (v:=?_) rfl (fun _ _ _ h=>h) ?_ ?_
   rotate_left
   ·(intro W hSW;(try dsimp only at hSW);obtain⟨t0,t1,t2,t3,t4⟩:=HD.out W hSW;(go_simp<;>with_reducible rfl))
   (try simp only[Act.put,IQ,IZ,OI])
  refine zaf ?_;refine zae rfl (fun K hK=>?_);obtain⟨g0,g1,g2,fz⟩:=bz3 Ykq5.out;go_simp;obtain⟨Y6,hW6,Ykq6,bs6,ho6,hl6⟩:=zca Ykq5 [I ER.place.x,I ER.place.y,I ER.above] rfl;simp only[zb1] at hW6;rw[hW6];have YB6:=J (hl6.out w (by have:=YB5.out.size;omega) YB5.out);refine hK.out _ _ YB6.out ?_;clear hK K fz hW6 ho6 hl6 g0 g1 g2;refine zak ?_
  try simp only[List.drop_succ_cons,List.drop_zero]
  go_wp2_with fail;go_meet;exact⟨_,rfl,Ykq6.out,YB6.out,O⟩
 obtain⟨g,rfl,kg_,hbW,hg⟩:=hcut;generalize wc=v3_ at *;have HB:=J hbW;have y0:=bkC (v:=I ER.place.x) kg_ 0 rfl;have y1:=bkC (v:=I ER.place.y) kg_ 1 rfl;clear kg_ hbW CE;go_wp2_with (go_at_call 91;with_reducible refine (CI.out _ HB.out).mono ?_;rintro e v4_ ⟨rfl,hb_⟩;replace HB:=btr HB hb_;clear hb_);go_ret;exact⟨rfl,HB.out⟩
theorem rise_lt {α:Type} {nm:α→ByteArray} {ok:α→Bool} {l:List α} (h:zba ok (fun p x=>ltS (nm p) (nm x)) l=true):∀ (j i:Nat) (hij:i<j) (hj:j<l.length),ltS (nm (l[i]'O)) (nm l[j])=true:=by
 intro j
 induction j with
 | zero=>intro i hij;omega
 | succ j ih =>
  intro i hij hj;have h1:=rowOk_rel h hj
  rcases Nat.lt_or_ge i j with c|c
  ·exact ltS_trans (ih i c O) h1
  ·obtain rfl:i=j:=O
   exact h1
theorem rise_one {α:Type} {nm:α→ByteArray} {ok:α→Bool} {l:List α} (h:zba ok (fun p x=>ltS (nm p) (nm x)) l=true) {i k:Nat} (hi:i<l.length) (hk:k<l.length) (e:nm l[i]=nm l[k]):i=k:=by
 have hn:∀ s:ByteArray,ltS s s=true→False:=fun s hs=>by have:=ltS_asymm hs;rw[hs] at this;cases this
 rcases Nat.lt_trichotomy i k with c|c|c
 ·have:=rise_lt h k i c hk;rw[e] at this;exact (hn _ this).elim
 ·exact c
 ·have:=rise_lt h i k c hi;rw[e] at this;exact (hn _ this).elim
theorem by6' {w:World} {B T:Nat} {a b c d e f:Value} (h:w.heap[B]? = some (.cells #[a,b,c,d,e,f] T (0,0))):w.cell? ⟨B,0,none⟩=some a∧w.cell? ⟨B,1,none⟩=some b∧w.cell? ⟨B,2,none⟩=some c∧w.cell? ⟨B,3,none⟩=some d∧w.cell? ⟨B,4,none⟩=some e∧w.cell? ⟨B,5,none⟩=some f:=⟨bkC h 0 rfl,bkC h 1 rfl,bkC h 2 rfl,bkC h 3 rfl,bkC h 4 rfl,bkC h 5 rfl⟩
theorem ptG_inT {t:DTerrain} (T:TerrOk t) {i:Nat} (hi:i<za6 t):inT t (ptG t i):=by
 have hg:=(zez T).2.2;have hw:0<t.width:=by have:=T.w0;omega
 have s:=T.s0;have i0:(0:Int)≤(i:Int):=O
 have hlt:(i:Int)<t.height*t.width:=by rw[Int.mul_comm,← hg];omega
 have m0:=Int.emod_nonneg (i:Int) (show t.width≠0 by omega);have m1:=Int.emod_lt_of_pos (i:Int) hw;have d0:0≤(i:Int) / t.width:=Int.ediv_nonneg i0 O;have d1:(i:Int) / t.width<t.height:=Int.ediv_lt_of_lt_mul hw hlt;exact⟨⟨Int.mul_nonneg m0 O,Int.mul_le_mul_of_nonneg_right O O⟩,⟨Int.mul_nonneg d0 O,Int.mul_le_mul_of_nonneg_right O O⟩⟩
theorem netB_rows {n:DNetwork} (h:netB n=true):zba radB (fun p x=>ltS p.name x.name) n.radios=true∧zba antB (fun p x=>ltS p.name x.name) n.antennas=true∧zba (fun x=>zan x&&zar n x) (fun p x=>ltS p.name x.name) n.sectors=true:=by
 rw[netB_eq] at h;unfold zde at h;simp only[Bool.and_eq_true] at h;exact⟨h.1.2.1,h.1.1,h.2.2.2.2⟩
theorem radio_eq {n:DNetwork} (h:netB n=true) {nm:ByteArray} {k:Nat} (hk:k<n.radios.length) (hi:zby n.radios nm=(k:Int)) {i:Nat} (hl:i<n.radios.length):((za4 n.radios i).name.toList == nm.toList)=decide (i=k):=by
 rw[← zbo hl];have hn:n.radios[k].name=nm:=by
  rcases zbs (fun y:DRadio=>eqS y.name nm) n.radios with ⟨h',_⟩|⟨k',hk',h',he,_⟩
  ·unfold zby at hi;omega
  ·have:k' = k:=by unfold zby at hi;omega
   subst this;exact zfk.1 he
 rw[Bool.eq_iff_iff,decide_eq_true_eq]
 constructor
 ·intro e
  exact rise_one (nm:=DRadio.name) (netB_rows h).1 hl hk ((zfk.1 e).trans hn.symm)
 ·rintro rfl
  exact zfk.2 hn
theorem antenna_eq {n:DNetwork} (h:netB n=true) {nm:ByteArray} {k:Nat} (hk:k<n.antennas.length) (hi:zbi n.antennas nm=(k:Int)) {i:Nat} (hl:i<n.antennas.length):((zav n.antennas i).name.toList == nm.toList)=decide (i=k):=by
 rw[← zbf hl];have hn:n.antennas[k].name=nm:=by
  rcases zbs (fun y:DAntenna=>eqS y.name nm) n.antennas with ⟨h',_⟩|⟨k',hk',h',he,_⟩
  ·unfold zbi at hi;omega
  ·have:k' = k:=by unfold zbi at hi;omega
   subst this;exact zfk.1 he
 rw[Bool.eq_iff_iff,decide_eq_true_eq]
 constructor
 ·intro e
  exact rise_one (nm:=DAntenna.name) (netB_rows h).2.1 hl hk ((zfk.1 e).trans hn.symm)
 ·rintro rfl
  exact zfk.2 hn
theorem sector_eq {n:DNetwork} (h:netB n=true) {nm:ByteArray} {k:Nat} (hk:k<n.sectors.length) (hi:zbg n.sectors nm=(k:Int)) {i:Nat} (hl:i<n.sectors.length):((zab n.sectors i).name.toList == nm.toList)=decide (i=k):=by
 rw[← za5 hl];have hn:n.sectors[k].name=nm:=by
  rcases zbs (fun y:DSector=>eqS y.name nm) n.sectors with ⟨h',_⟩|⟨k',hk',h',he,_⟩
  ·unfold zbg at hi;omega
  ·have:k' = k:=by unfold zbg at hi;omega
   subst this;exact zfk.1 he
 rw[Bool.eq_iff_iff,decide_eq_true_eq]
 constructor
 ·intro e
  exact rise_one (nm:=DSector.name) (netB_rows h).2.2 hl hk ((zfk.1 e).trans hn.symm)
 ·rintro rfl
  exact zfk.2 hn
theorem sector_none {n:DNetwork} {nm:ByteArray} (hi:zbg n.sectors nm = -1) {i:Nat} (hl:i<n.sectors.length):((zab n.sectors i).name.toList == nm.toList)=false:=by
 rw[← za5 hl]
 rcases zbs (fun y:DSector=>eqS y.name nm) n.sectors with ⟨_,ha⟩|⟨k',hk',h',_,_⟩
 ·rw[List.any_eq_false] at ha
  have:=ha _ (List.getElem_mem hl)
  simpa [eqS] using this
 ·unfold zbg at hi;omega
end Go.Proofs.YtgmapjgodibchaaGreatDoor
