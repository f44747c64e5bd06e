/- Contract: a copy of a network, for the reference. Conditions: bounded lengths. -/
import Derived.Test.YtpakghepnahooaaGreatDoorNet9
import Derived.Deep.DeepCutAuto
set_option linter.unusedVariables false
set_option linter.unusedSimpArgs false
namespace Go.Proofs.YtpakghepnahooaaGreatDoor
open Go.RowKit
theorem Q3a {p:Prop} (h:p:=by show w.heap.size≤w.heap.size+1;omega):p:=h
theorem Q3g {p:Prop} (h:p:=by show w.heap.size≤w.heap.size;omega):p:=h
theorem Q3h {p:Prop} (h:p:=by have:=SB0.out g hg;show g≠h;omega):p:=h
theorem Q3i {p:Prop} (h:p:=by have:=SB1.out g hg;show g≠h;omega):p:=h
theorem Q3l {p:Prop} (h:p:=by simpa [Value.ownBlock] using hb):p:=h
theorem Q3q {p:Prop} (h:p:=by have:=FB1.out b hb;omega):p:=h
theorem Q3r {p:Prop} (h:p:=by have:=SB1.out b hb;omega):p:=h
theorem Q3s {p:Prop} (h:p:=by have:=FB0.out b hb;omega):p:=h
theorem Q3t {p:Prop} (h:p:=by have:=SB0.out b hb;omega):p:=h
theorem Q06 {p:Prop} (h:p:=by
 (intro W hSW;(try dsimp only at hSW);(go_simp<;>with_reducible rfl))):p:=h
set_option maxHeartbeats 4000000
set_option maxRecDepth 100000
theorem blk6 {w:World} {B T:Nat} {a b c d e f:Value} (h:w.heap[B]? = some (.cells #[a,b,c,d,e,f] T (0,0))):(w,B,0,a)∧(w,B,1,b)∧(w,B,2,c)∧(w,B,3,d)∧(w,B,4,e)∧(w,B,5,f):=by
 simp[World.cell?,h]
theorem l06Own_any (x:DAntenna) (vh vv:Value) (b off:Nat) (w:World) (hh:Rd w w (zam x.horizontal) vh) (hv:Rd w w (zam x.vertical) vv) (hb:b<w.heap.size) (c0:w.cell? ⟨b,off,none⟩=some (IQ x.name)) (c1:w.cell? ⟨b,off+1,none⟩=some (J x.gain)) (c2:w.cell? ⟨b,off+2,none⟩=some vh) (c3:w.cell? ⟨b,off+3,none⟩=some vv) (k1:x.horizontal.length≤1048576) (k2:x.vertical.length≤1048576) :
  Calls Tryz.prog 193 #[.pointer (some ⟨b,off,none⟩)] w fun e w'=>∃ a2 c2 a3 c3 fp,e=.returned (.agg (x,a2,c2,a3,c3))∧OI w w w'∧OwnV w' x.tr [IQ x.name,J x.gain,IZ a2 x.horizontal.length c2,IZ a3 x.vertical.length c3] fp∧In w w'.heap.size fp:=by
 have H2:Hid (∀ W:World,OI w w W→Calls Tryz.prog 223 #[vh] W fun e w'=>∃ a' c' fp,e=.returned (IZ a' x.horizontal.length c')∧OI W W w'∧Own w' (zam x.horizontal) (IZ a' x.horizontal.length c') fp∧In W w'.heap.size fp):=fun W hW=>l00Own_any x.horizontal vh W ((hh.below hW).mono hW.size) k1
 have H3:Hid (∀ W:World,OI w w W→Calls Tryz.prog 223 #[vv] W fun e w'=>∃ a' c' fp,e=.returned (IZ a' x.vertical.length c')∧OI W W w'∧Own w' (zam x.vertical) (IZ a' x.vertical.length c') fp∧In W w'.heap.size fp):=fun W hW=>l00Own_any x.vertical vv W ((hv.below hW).mono hW.size) k2
 obtain⟨ah,ch,e2,-,-,-⟩:=hh.ints;obtain⟨av,cv,e3,-,-,-⟩:=hv.ints;subst e2 e3;have HK:Hid (∀ W:World,OI w w W→(W,b,off,IQ x.name)∧(W,b,off+1,J x.gain)∧(W,b,off+2,IZ ah x.horizontal.length ch)∧(W,b,off+3,IZ av x.vertical.length cv)):=fun W h=>⟨(bat h b _ hb).trans c0,(bat h b _ hb).trans c1,(bat h b _ hb).trans c2,(bat h b _ hb).trans c3⟩
 clear hh hv c0 c1 c2 c3;have BB1:Hid (OI w w (w.alloc (.cells #[IQ ⟨#[]⟩,J 0,IZ none 0 0,IZ none 0 0] 121)).drew):=((Below.refl _ _).alloc (Nat.le_refl _) _).drew;have KR1:Hid ((w.alloc (.cells #[IQ ⟨#[]⟩,J 0,IZ none 0 0,IZ none 0 0] 121)).drew.heap[w.heap.size]? = some (.cells #[IQ ⟨#[]⟩,J 0,IZ none 0 0,IZ none 0 0] 121 (0,0))):=blkN w _ _;have z1:w.heap.size+1≤(w.alloc (.cells #[IQ ⟨#[]⟩,J 0,IZ none 0 0,IZ none 0 0] 121)).drew.heap.size:=by show _≤(w.alloc _).heap.size;simp
 go_enter Tryz.func193,Tryz.ntmps193;go_wp2;refine zbj 18 [(0,true),(1,true),(2,true),(3,true),(4,true),(5,true),(6,true),(7,true),(8,true),(9,true),(10,true),(11,true),(13,true),(14,true),(15,true),(16,true),(12,false),(17,false)] (fun W=>(W,b,off,IQ x.name)∧(W,b,off+1,J x.gain)∧(W,b,off+2,IZ ah x.horizontal.length ch)∧(W,b,off+3,IZ av x.vertical.length cv)) JI JI (HK.out _ BB1.out) (fun hHeld=>?_);generalize (w.alloc (.cells #[IQ ⟨#[]⟩,J 0,IZ none 0 0,IZ none 0 0] 121)).drew=W1 at *;clear hHeld;refine zaj (v:=?_) rfl (fun _ _ _ h=>h) ?_ ?_
 rotate_left
 ·exact Q06
 (try simp only[Act.put,OO,OJ,OQ])
 refine zaj (v:=?_) rfl (fun _ _ _ h=>h) ?_ ?_
 rotate_left
 ·exact Q06
 (try simp only[Act.put,OO,OJ,OQ])
 refine zaj (v:=?_) rfl (fun _ _ _ h=>h) ?_ ?_
 rotate_left
 ·exact Q06
 (try simp only[Act.put,OO,OJ,OQ])
 refine zaj (v:=?_) rfl (fun _ _ _ h=>h) ?_ ?_
 rotate_left
 ·exact Q06
 (try simp only[Act.put,OO,OJ,OQ])
 refine zaj (v:=?_) rfl (fun _ _ _ h=>h) ?_ ?_
 rotate_left
 ·exact Q06
 (try simp only[Act.put,OO,OJ,OQ])
 refine zaj (v:=?_) rfl (fun _ _ _ h=>h) ?_ ?_
 rotate_left
 ·exact Q06
 (try simp only[Act.put,OO,OJ,OQ])
 refine zaj (v:=?_) rfl (fun _ _ _ h=>h) ?_ ?_
 rotate_left
 ·exact Q06
 (try simp only[Act.put,OO,OJ,OQ])
 refine zaj (v:=?_) rfl (fun _ _ _ h=>h) ?_ ?_
 rotate_left
 ·exact Q06
 (try simp only[Act.put,OO,OJ,OQ])
 refine zaj (v:=?_) rfl (fun _ _ _ h=>h) ?_ ?_
 rotate_left
 ·exact Q06
 (try simp only[Act.put,OO,OJ,OQ])
 refine zaj (v:=?_) rfl (fun _ _ _ h=>h) ?_ ?_
 rotate_left
 ·exact Q06
 (try simp only[Act.put,OO,OJ,OQ])
 refine zaj (v:=?_) rfl (fun _ _ _ h=>h) ?_ ?_
 rotate_left
 ·exact Q06
 (try simp only[Act.put,OO,OJ,OQ])
 refine zaj (v:=?_) rfl (fun _ _ _ h=>h) ?_ ?_
 rotate_left
 ·exact Q06
 (try simp only[Act.put,OO,OJ,OQ])
 refine zaj (v:=?_) rfl (fun _ _ _ h=>h) ?_ ?_
 rotate_left
 ·exact Q06
 (try simp only[Act.put,OO,OJ,OQ])
 refine zaj (v:=?_) rfl (fun _ _ _ h=>h) ?_ ?_
 rotate_left
 ·exact Q06
 (try simp only[Act.put,OO,OJ,OQ])
 refine zaj (v:=?_) rfl (fun _ _ _ h=>h) ?_ ?_
 rotate_left
 ·exact Q06
 (try simp only[Act.put,OO,OJ,OQ])
 refine zaj (v:=?_) rfl (fun _ _ _ h=>h) ?_ ?_
 rotate_left
 ·exact Q06
 (try simp only[Act.put,OO,OJ,OQ])
 refine zbd rfl (fun K hK=>?_);go_simp;refine (H2.out _ BB1.out).mono ?_;rintro e X2 ⟨a2,d2,p2,rfl,hb2,o2,i2⟩;refine hK.out _ _ (HK.out _ (BB1.out.trans (hb2.mono II))) ?_;clear hK K
 (try simp only[Act.put,OO,OJ,OQ])
 have BB2:=IJ (BB1.out.trans (hb2.mono II));have KR2:=IJ (blkB KR1.out hb2 II);have z2:W1.heap.size≤X2.heap.size:=hb2.size;have O2_1:=IJ o2;clear hb2 o2 BB1 KR1;refine zbd rfl (fun K hK=>?_);go_simp;refine (H3.out _ BB2.out).mono ?_;rintro e X3 ⟨a3,d3,p3,rfl,hb3,o3,i3⟩;refine hK.out _ _ (HK.out _ (BB2.out.trans (hb3.mono II))) ?_;clear hK K
 (try simp only[Act.put,OO,OJ,OQ])
 have BB3:=IJ (BB2.out.trans (hb3.mono II));have KR3:=IJ (blkB KR2.out hb3 II);have z3:X2.heap.size≤X3.heap.size:=hb3.size;have O3_2:=IJ o3;have O2_2:=IJ (O2_1.out.below i2 II hb3);clear hb3 o3 BB2 KR2;refine zcp ?_;simp only[List.drop_succ_cons,List.drop_zero];have ov:OwnV X3 x.tr [IQ x.name,J x.gain,IZ a2 x.horizontal.length d2,IZ a3 x.vertical.length d3] (p2++(p3++[])):=OwnV.consLit (OwnV.consLit (OwnV.cons O2_2.out (OwnV.cons O3_2.out OwnV.nil Q4a) (fun y h1 h2=>by have:=(i2 y h1).2;simp only[List.append_nil] at h2;have:=(i3 y h2).1;omega)) rfl) rfl;have iv:In (w.heap.size+1) X3.heap.size (p2++(p3++[])):=(i2.mono II II).append ((i3.mono II II).append In.nil);have OF:=IJ (((((ov).setFar (p:=⟨w,0,none⟩) (fun e=>by have:=(iv _ e).1;simp only at this;omega) (IQ x.name)).setFar (p:=⟨w,1,none⟩) (fun e=>by have:=(iv _ e).1;simp only at this;omega) (J x.gain)).setFar (p:=⟨w,2,none⟩) (fun e=>by have:=(iv _ e).1;simp only at this;omega) (IZ a2 x.horizontal.length d2)).setFar (p:=⟨w,3,none⟩) (fun e=>by have:=(iv _ e).1;simp only at this;omega) (IZ a3 x.vertical.length d3));have BF:=IJ (((((BB3.out).setCell (p:=⟨w,0,none⟩) (Nat.le_refl _) (IQ x.name)).setCell (p:=⟨w,1,none⟩) (Nat.le_refl _) (J x.gain)).setCell (p:=⟨w,2,none⟩) (Nat.le_refl _) (IZ a2 x.horizontal.length d2)).setCell (p:=⟨w,3,none⟩) (Nat.le_refl _) (IZ a3 x.vertical.length d3));have IVF:=IJ iv;obtain⟨g0,g1,g2,g3⟩:=blk4 KR3.out;have fz:=blkF KR3.out;clear ov iv KR3 BB3 O2_1 O2_2 O3_2 H2 H3 HK;go_wp2;refine bodyPost_ret (v:=.agg (x,a2,d2,a3,d3)) (by simp[results,Tryz.results193,go_sem, *]) rfl ⟨a2,d2,a3,d3,_,rfl,BF.out,OF.out,?_⟩;simp only[zac];exact IVF.out.mono II (Nat.le_refl _)
theorem l07Own_any (x:DRadio) (vm:Value) (b off:Nat) (w:World) (hm:Rd w w (DMode.sT x.modes) vm) (hb:b<w.heap.size) (c0:w.cell? ⟨b,off,none⟩=some (IQ x.name)) (c1:w.cell? ⟨b,off+1,none⟩=some (J x.power)) (c2:w.cell? ⟨b,off+2,none⟩=some (J x.feeder)) (c3:w.cell? ⟨b,off+3,none⟩=some (J x.noise)) (c4:w.cell? ⟨b,off+4,none⟩=some (J x.width)) (c5:w.cell? ⟨b,off+5,none⟩=some vm) (k1:x.modes.length≤1048576) :
  Calls Tryz.prog 194 #[.pointer (some ⟨b,off,none⟩)] w fun e w'=>∃ a5 d5 fp,e=.returned (.agg (x,a5,d5))∧OI w w w'∧OwnV w' x.tr [IQ x.name,J x.power,J x.feeder,J x.noise,J x.width,IZ a5 x.modes.length d5] fp∧In w w'.heap.size fp:=by
 obtain⟨i0,hi0,hz0,hz1,hz2⟩:=info_parts infoMode;obtain⟨am,cm,xs,rfl,hnc,hcm,hrd,hx,h1⟩:=DMode.raw hm;have HR:=IJ hrd;have H1:=IJ h1;have HX:=IJ hx;clear hrd h1 hx hm;have w0:OI w w ((w.alloc (.cells #[IQ ⟨#[]⟩,J 0,J 0,J 0,J 0,IZ none 0 0] 125)).alloc (.cells (x,am,cm) 125)):=((Below.refl _ _).alloc (Nat.le_refl _) _).alloc Q4a _;have kR:((w.alloc (.cells #[IQ ⟨#[]⟩,J 0,J 0,J 0,J 0,IZ none 0 0] 125)).alloc (.cells (x,am,cm) 125)).heap[w.heap.size]? = some (.cells #[IQ ⟨#[]⟩,J 0,J 0,J 0,J 0,IZ none 0 0] 125 (0,0)):=blkA (blkN w _ _) Q4a _;have kL:((w.alloc (.cells #[IQ ⟨#[]⟩,J 0,J 0,J 0,J 0,IZ none 0 0] 125)).alloc (.cells (x,am,cm) 125)).heap[w.heap.size+1]? = some (.cells (x,am,cm) 125 (0,0)):=by
  have:=blkN (w.alloc (.cells #[IQ ⟨#[]⟩,J 0,J 0,J 0,J 0,IZ none 0 0] 125)) (x,am,cm) 125;rw[show (w.alloc (.cells #[IQ ⟨#[]⟩,J 0,J 0,J 0,J 0,IZ none 0 0] 125)).heap.size=w.heap.size+1 by simp] at this;exact this
 have z0:w.heap.size+2=((w.alloc (.cells #[IQ ⟨#[]⟩,J 0,J 0,J 0,J 0,IZ none 0 0] 125)).alloc (.cells (x,am,cm) 125)).heap.size:=by simp
 have HR1:=IJ (HR.out.below w0);have KR:=IJ kR;have KL:=IJ kL;have W0:=IJ w0;have c5':=(bat w0 b _ hb).trans c5;have Z0:=IJ z0;have z0':w.heap.size+2≤((w.alloc (.cells #[IQ ⟨#[]⟩,J 0,J 0,J 0,J 0,IZ none 0 0] 125)).alloc (.cells (x,am,cm) 125)).heap.size:=by simp
 clear kR kL w0 z0;go_enter Tryz.func194,Tryz.ntmps194;go_upto_region 2 with (fail);generalize ((w.alloc (.cells #[IQ ⟨#[]⟩,J 0,J 0,J 0,J 0,IZ none 0 0] 125)).alloc (.cells (x,am,cm) 125))=W1 at *;clear c0 c1 c2 c3 c4 c5;have hbW:b<W1.heap.size:=II
 go_wp2_with (at_builtin;refine zb1 _ rfl (.tmp 7) (.tmp 11) _ rfl W1.heap.size 163 i0 _ 2 16 Tryz.underlying123 hi0 hz0 hz1 hz2 rfl II (IZ (some ⟨W1,0,none⟩) 0 0) 0 [] rfl (ze6 W1 _ _) w.heap.size am x.modes.length cm xs rfl (HR1.out.alloc II _) H1.out Q3u II Q4a ?_;intro v1 w1 hown1 hg1 hat1;(simp only[Nat.zero_add,List.nil_append] at hown1);(have hb1:OI W1 W1 w1:=((Below.refl _ _).alloc (Nat.le_refl _) _).grown hg1 Q4a (fun k hk=>by simp[Value.ownBlock] at hk;omega));obtain⟨a5,d5,rfl,-⟩:=zaw hown1;(have how:=hown1);obtain⟨fp,OF,IF_,-⟩:=(grow_Mode how HX.out).toOwnB (lo:=W1.heap.size) Q48 In.nil (Nat.le_refl _);obtain⟨g0,g1,g2,g3,g4,g5⟩:=blk6 (blkB KR.out hb1 II);(have fz:=blkF (blkB KR.out hb1 II));obtain⟨l0,l1,l2,l3,l4,l5⟩:=blk6 (blkB KL.out hb1 II);(have lz:=blkF (blkB KL.out hb1 II));(have BB:=IJ (W0.out.trans (hb1.mono II)));(have ov:OwnV w1 x.tr [IQ x.name,J x.power,J x.feeder,J x.noise,J x.width,IZ a5 x.modes.length d5] (fp++[]):=OwnV.consLit (OwnV.consLit (OwnV.consLit (OwnV.consLit (OwnV.consLit (OwnV.cons OF OwnV.nil Q4a) rfl) rfl) rfl) rfl) rfl);(have OV:=IJ ov);(have IV:Hid (In (w.heap.size+2) w1.heap.size (fp++[])):=(IF_.mono II (Nat.le_refl _)).append In.nil);clear hown1 hg1 hat1 how hb1 OF IF_ ov HR1 HR H1 HX KR KL W0 Z0 c5');have OF:=IJ ((((((((OV.out).setFar (p:=⟨w.heap.size+1,5,none⟩) (fun e=>by have:=(IV.out _ e).1;simp only at this;omega) (IZ a5 x.modes.length d5)).setFar (p:=⟨w,0,none⟩) (fun e=>by have:=(IV.out _ e).1;simp only at this;omega) (IQ x.name)).setFar (p:=⟨w,1,none⟩) (fun e=>by have:=(IV.out _ e).1;simp only at this;omega) (J x.power)).setFar (p:=⟨w,2,none⟩) (fun e=>by have:=(IV.out _ e).1;simp only at this;omega) (J x.feeder)).setFar (p:=⟨w,3,none⟩) (fun e=>by have:=(IV.out _ e).1;simp only at this;omega) (J x.noise)).setFar (p:=⟨w,4,none⟩) (fun e=>by have:=(IV.out _ e).1;simp only at this;omega) (J x.width)).setFar (p:=⟨w,5,none⟩) (fun e=>by have:=(IV.out _ e).1;simp only at this;omega) (IZ a5 x.modes.length d5));have BF:=IJ ((((((((BB.out).setCell (p:=⟨w.heap.size+1,5,none⟩) Q3a (IZ a5 x.modes.length d5)).setCell (p:=⟨w,0,none⟩) Q3g (IQ x.name)).setCell (p:=⟨w,1,none⟩) Q3g (J x.power)).setCell (p:=⟨w,2,none⟩) Q3g (J x.feeder)).setCell (p:=⟨w,3,none⟩) Q3g (J x.noise)).setCell (p:=⟨w,4,none⟩) Q3g (J x.width)).setCell (p:=⟨w,5,none⟩) Q3g (IZ a5 x.modes.length d5));refine bodyPost_ret (v:=.agg (x,a5,d5)) (by simp[results,Tryz.results194,go_sem, *]) rfl ⟨a5,d5,_,rfl,BF.out,OF.out,?_⟩;simp only[zac];exact IV.out.mono II (Nat.le_refl _)
set_option maxHeartbeats 16000000
set_option maxRecDepth 100000
theorem Grow.slice {w:World} {base E size n:Nat} {v:Value} {ts:List Tr} {f:List Nat} (h:Grow w base E size v n ts f):∃ a c,v=IZ a n c:=by
 obtain⟨xs,ho,_⟩:=h.own;obtain⟨a,c,e,_⟩:=zaw ho;exact⟨a,c,e⟩
def Spr (w:World) (h:Nat) (wx:World) (E k:Nat) (v:Value) (n:Nat):Prop:=(∃ xs,wx.ownsRow (w.heap.size+1) E k v n xs)∧∀ g,v.ownBlock=some g→(w.heap.size<g∧g<wx.heap.size)∧g≠h
def NetPS (n:DNetwork) (w:World) (e:Ending) (w':World):Prop:=∃ a0 c0 a1 c1 a2 c2 a3 c3 fp,e=.returned (.agg (n,a0,c0,a1,c1,a2,c2,a3,c3))∧OI w w w' ∧
 OwnV w' n.tr [IZ a0 n.sites.length c0,IZ a1 n.sectors.length c1,IZ a2 n.antennas.length c2,IZ a3 n.radios.length c3] fp∧In w w'.heap.size fp∧SpB w' w.heap.size w'.heap.size 119 4 (IZ a0 n.sites.length c0) n.sites.length∧SpB w' w.heap.size w'.heap.size 43 9 (IZ a1 n.sectors.length c1) n.sectors.length
def OutP (n:DNetwork) (w:World) (s3:Value) (wx:World):Prop:=∃ (h:Nat) (a0:Option Addr) (c0:Nat) (a1:Option Addr) (c1:Nat) (f0 f1:List Nat),s3=.pointer (some ⟨h,0,none⟩)∧w.heap.size<h∧h<wx.heap.size∧wx.heap[h]? = some (.cells #[IZ a0 n.sites.length c0,IZ a1 n.sectors.length c1,IZ none 0 0,IZ none 0 0] 32 (0,0)) ∧
 wx.heap[w.heap.size]? = some (.cells () 32 (0,0))∧Own wx (DSite.sT n.sites) (IZ a0 n.sites.length c0) f0∧Own wx (DSector.sT n.sectors) (IZ a1 n.sectors.length c1) f1∧(∀ x ∈ f0,(w.heap.size<x∧x<wx.heap.size)∧x≠h∧x ∉ f1)∧(∀ x ∈ f1,(w.heap.size<x∧x<wx.heap.size)∧x≠h)∧OI w w wx∧Spr w h wx 119 4 (IZ a0 n.sites.length c0) n.sites.length∧Spr w h wx 43 9 (IZ a1 n.sectors.length c1) n.sectors.length∧(n.sites.length=0→c0=0)∧(n.sectors.length=0→c1=0)
theorem rowBlocks {w w':World} {g:Nat} {v:Value} {f:List Nat} (hd:∀ y ∈ f,v.ownBlock=some y∨y ∈ ([]:List Nat)) (hat:v.ownBlock=(Value.slice (some ⟨g,0,none⟩) 0 0).ownBlock∨v.ownBlock=some w.heap.size) (hi:In g w'.heap.size f):∀ y ∈ f,y=g∨(w.heap.size≤y∧y<w'.heap.size):=fun y hy=>by
 rcases hd y hy with h|h
 ·rcases hat with e|e
  ·rw[e] at h;left;simpa [Value.ownBlock] using h.symm
  ·rw[e] at h;injection h with h;exact Or.inr ⟨II,(hi y hy).2⟩
 ·simp at h
theorem rowBlk {w w':World} {lo g E k n:Nat} {v:Value} {xs:List Value} (ho:w'.ownsRow lo E k v n xs) (hat:v.ownBlock=(Value.slice (some ⟨g,0,none⟩) 0 0).ownBlock∨v.ownBlock=some w.heap.size):∀ y,v.ownBlock=some y→y=g∨(w.heap.size≤y∧y<w'.heap.size):=fun y hy=>by
 have h2:=(zbf ho hy).2
 rcases hat with e|e
 ·rw[e] at hy;left;simpa [Value.ownBlock] using hy.symm
 ·rw[e] at hy;injection hy with hy;exact Or.inr ⟨II,h2⟩
theorem zb9 {w w':World} {lo E k n:Nat} {v:Value} (h:∃ xs,w.ownsRow lo E k v n xs) (hf:∀ g,v.ownBlock=some g→w'.heap[g]? = w.heap[g]?):∃ xs,w'.ownsRow lo E k v n xs:=by
 obtain⟨xs,hx⟩:=h;exact⟨xs,zap hx hf⟩
theorem spr_mono {w:World} {lo lo' E k n:Nat} {v:Value} (h:∃ xs,w.ownsRow lo E k v n xs) (hl:lo'≤lo):∃ xs,w.ownsRow lo' E k v n xs:=by
 obtain⟨xs,hx⟩:=h;exact⟨xs,ownsRow_mono hx hl⟩
theorem Chg.thenBelow {fp:List Nat} {a b c:World} (h:Chg fp a b) (k:OI a b c):Chg fp a c:=⟨k.os.trans h.os,k.tape.trans h.tape,k.output.trans h.output,Nat.le_trans h.size k.size,fun x hx hn=>(k.block x hx).trans (h.block x hx hn)⟩
theorem l14Own_sp (n:DNetwork) (v0 v1 v2 v3:Value) (bp:Nat) (w:World) (r0:Rd w w (DSite.sT n.sites) v0) (r1:Rd w w (DSector.sT n.sectors) v1) (r2:Rd w w (DAntenna.sT n.antennas) v2) (r3:Rd w w (DRadio.sT n.radios) v3) (hbp:bp<w.heap.size) (p0:w.cell? ⟨bp,0,none⟩=some v0) (p1:w.cell? ⟨bp,1,none⟩=some v1) (p2:w.cell? ⟨bp,2,none⟩=some v2) (p3:w.cell? ⟨bp,3,none⟩=some v3) (hs:sizL n.tr≤1048576) :
  Calls Tryz.prog 142 #[.pointer (some ⟨bp,0,none⟩)] w (NetPS n w):=by
 have hsum:=DNetwork.siz_tr n;have q0:=DSite.siz_s n.sites;have q1:=DSector.siz_s n.sectors;have q2:=DAntenna.siz_s n.antennas;have q3:=DRadio.siz_s n.radios;have l0:n.sites.length≤1048576:=II
 have l1:n.sectors.length≤1048576:=II
 have l2:n.antennas.length≤1048576:=II
 have l3:n.radios.length≤1048576:=II
 have LA:Hid (∀ k (h:k<n.antennas.length),n.antennas[k].horizontal.length≤1048576∧n.antennas[k].vertical.length≤1048576):=fun k h=>by
  have h1:=zcl DAntenna.tr n.antennas k h;have h2:=DAntenna.siz_tr n.antennas[k];rw[zdb,zdb] at h2;omega
 have LR:Hid (∀ k (h:k<n.radios.length),n.radios[k].modes.length≤1048576):=fun k h=>by
  have h1:=zcl DRadio.tr n.radios k h;have h2:=DRadio.siz_tr n.radios[k];rw[DMode.siz_s] at h2;omega
 obtain⟨iS,hS0,hS1,hS2,hS3⟩:=info_parts infoSite;obtain⟨iT,hT0,hT1,hT2,hT3⟩:=info_parts infoSector;obtain⟨iA,hA0,hA1,hA2,hA3⟩:=info_parts infoAntenna;obtain⟨iR,hR0,hR1,hR2,hR3⟩:=info_parts infoRadio;obtain⟨A0,C0,x0,rfl,-,-,d0,X0,o0⟩:=DSite.raw r0;obtain⟨A1,C1,x1,rfl,-,-,d1,X1,o1⟩:=DSector.raw r1;obtain⟨A2,C2,e2,-,-,ca⟩:=DAntenna.rd r2;obtain⟨A3,C3,e3,-,-,cr⟩:=DRadio.rd r3;subst e2 e3;have DS0:=IJ d0;have DS1:=IJ d1;have XS0:=IJ X0;have XS1:=IJ X1;have ON0:=IJ o0;have ON1:=IJ o1;have CA:=IJ ca;have CR:=IJ cr;have P0:=IJ p0;have P1:=IJ p1;have P2:=IJ p2;have P3:=IJ p3;clear hsum q0 q1 q2 q3 d0 d1 X0 X1 o0 o1 ca cr p0 p1 p2 p3 r0 r1 r2 r3;have BB0:Hid (OI w w (w.alloc (.cells () 32)).drew):=((Below.refl _ _).alloc (Nat.le_refl _) _).drew;have KR0:Hid ((w.alloc (.cells () 32)).drew.heap[w.heap.size]? = some (.cells () 32 (0,0))):=blkN w _ _;have z0:w.heap.size+1≤(w.alloc (.cells () 32)).drew.heap.size:=by show _≤(w.alloc _).heap.size;simp
 go_enter Tryz.func142,Tryz.ntmps142;go_wp2;go_cut [3] (fun s3 wx=>OutP n w s3 wx)
 case first =>
  refine zas 14 (.read 1 (.read 2 (.read 3 (.read 4 (.read 7 (.read 8 (.read 9 (.read 10 (.three 0 6 13 (.three 5 6 13 (.two 6 13 (.two 11 13 (.read 12 (.one 13 .nil)) (.one 11 (.read 12 .nil))) (.one 6 (.one 11 (.read 12 .nil)))) (.two 5 13 (.two 11 13 (.read 12 (.one 13 .nil)) (.one 11 (.read 12 .nil))) (.one 5 (.one 11 (.read 12 .nil)))) (.two 5 6 (.one 6 (.one 11 (.read 12 .nil))) (.one 5 (.one 11 (.read 12 .nil))))) (.two 0 13 (.two 5 13 (.two 11 13 (.read 12 (.one 13 .nil)) (.one 11 (.read 12 .nil))) (.one 5 (.one 11 (.read 12 .nil)))) (.one 0 (.one 5 (.one 11 (.read 12 .nil))))) (.two 0 6 (.two 5 6 (.one 6 (.one 11 (.read 12 .nil))) (.one 5 (.one 11 (.read 12 .nil)))) (.one 0 (.one 5 (.one 11 (.read 12 .nil)))))))))))))) (fun W=>(W,bp,0,IZ A0 n.sites.length C0)∧(W,bp,1,IZ A1 n.sectors.length C1)) JI JI (⟨(bat (BB0.out) bp _ hbp).trans P0.out,(bat (BB0.out) bp _ hbp).trans P1.out⟩) ?_;generalize (w.alloc (.cells () 32)).drew=Y at *
  repeat' (first
   | (refine zak (v:=?_) rfl (fun _ _ _ h=>h) ?_ ?_;rotate_left;focus (intro W hSW;(try dsimp only at hSW);(go_simp<;>with_reducible rfl));(try simp only[Act.put,OO,OJ,OQ]))
   | ((first|refine zaf ?_|refine zbv ?_ ?_|refine wpTree_three ?_ ?_ ?_)<;>(refine zae rfl (fun K hK=>?_);(first|(refine wp_append_anyZ _ (.tmp 6) (.tmp 10) _ rfl q0 119 iS _ 4 48 Tryz.underlying27 hS0 hS1 hS2 hS3 rfl II (IZ (some ⟨q0,0,none⟩) 0 0) 0 [] rfl E0.out w.heap.size A0 n.sites.length C0 x0 rfl (DS0.out.below BB0.out) ON0.out Q3u II II ?_;intro v2_ Z hown hg hat hz_;simp only[Nat.zero_add,List.nil_append] at hown;have bs:=hg.size;have b_:OI q0 Y Z:=(Below.refl _ _).grown hg II (fun k hk=>by simp[Value.ownBlock] at hk;omega);have kp:∀ b,b<Y.heap.size→b≠q0→Z.heap[b]? = Y.heap[b]?:=fun b hb hne=>hg.block b hb (fun e=>hne (by simpa [Value.ownBlock] using e));obtain⟨f0,of_,if_,df_⟩:=(grow_Site hown XS0.out).toOwnB (lo:=q0) Q48 In.nil (Nat.le_refl _);obtain⟨a0,c0,ev,-⟩:=zaw hown;subst ev;have SC0:Hid (n.sites.length=0→c0=0):=(fun h=>(Value.slice.inj (hz_ h)).2.2);clear hz_;have FB0:Hid (∀ y ∈ f0,y=q0∨(Y.heap.size≤y∧y<Z.heap.size)):=rowBlocks df_ hat if_;have SB0:Hid (∀ y,(Value.slice a0 n.sites.length c0).ownBlock=some y→y=q0∨(Y.heap.size≤y∧y<Z.heap.size)):=rowBlk hown hat;have SP0:Hid (∃ xs,Z.ownsRow q0 119 4 (IZ a0 n.sites.length c0) n.sites.length xs):=⟨_,hown⟩;have OF0:=IJ of_;clear E0 hown hg hat of_ if_ df_;refine hK.out _ _ (⟨(bat (BB0.out.trans (b_.mono II)) bp _ hbp).trans P0.out,(bat (BB0.out.trans (b_.mono II)) bp _ hbp).trans P1.out⟩) ?_;clear hK K;(try simp only[Act.put,OO,OJ,OQ]);replace KR0:=IJ ((kp _ II II).trans KR0.out);(try replace KH:=IJ ((kp _ II II).trans KH.out));(try replace E0:=IJ (zap (w':=Z) E0.out (fun b hb=>by have e_:q0=b:=Q3l;rw[← e_];exact kp _ II II)));(try replace E1:=IJ (zap (w':=Z) E1.out (fun b hb=>by have e_:q1=b:=Q3l;rw[← e_];exact kp _ II II)));(try replace OF1:=IJ (OF1.out.frame (w':=Z) (fun b hb=>kp b Q3q Q3q)));(try replace SP1:=IJ (zb9 (w':=Z) SP1.out (fun b hb=>kp b Q3r Q3r)));replace BB0:=IJ (BB0.out.trans (b_.mono II));clear b_ kp;rename World=>Y)|(refine wp_append_anyZ _ (.tmp 12) (.tmp 16) _ rfl q1 43 iT _ 9 112 Tryz.underlying28 hT0 hT1 hT2 hT3 rfl II (IZ (some ⟨q1,0,none⟩) 0 0) 0 [] rfl E1.out w.heap.size A1 n.sectors.length C1 x1 rfl (DS1.out.below BB0.out) ON1.out Q3u II II ?_;intro v2_ Z hown hg hat hz_;simp only[Nat.zero_add,List.nil_append] at hown;have bs:=hg.size;have b_:OI q1 Y Z:=(Below.refl _ _).grown hg II (fun k hk=>by simp[Value.ownBlock] at hk;omega);have kp:∀ b,b<Y.heap.size→b≠q1→Z.heap[b]? = Y.heap[b]?:=fun b hb hne=>hg.block b hb (fun e=>hne (by simpa [Value.ownBlock] using e));obtain⟨f1,of_,if_,df_⟩:=(grow_Sector hown XS1.out).toOwnB (lo:=q1) Q48 In.nil (Nat.le_refl _);obtain⟨a1,c1,ev,-⟩:=zaw hown;subst ev;have SC1:Hid (n.sectors.length=0→c1=0):=(fun h=>(Value.slice.inj (hz_ h)).2.2);clear hz_;have FB1:Hid (∀ y ∈ f1,y=q1∨(Y.heap.size≤y∧y<Z.heap.size)):=rowBlocks df_ hat if_;have SB1:Hid (∀ y,(Value.slice a1 n.sectors.length c1).ownBlock=some y→y=q1∨(Y.heap.size≤y∧y<Z.heap.size)):=rowBlk hown hat;have SP1:Hid (∃ xs,Z.ownsRow q1 43 9 (IZ a1 n.sectors.length c1) n.sectors.length xs):=⟨_,hown⟩;have OF1:=IJ of_;clear E1 hown hg hat of_ if_ df_;refine hK.out _ _ (⟨(bat (BB0.out.trans (b_.mono II)) bp _ hbp).trans P0.out,(bat (BB0.out.trans (b_.mono II)) bp _ hbp).trans P1.out⟩) ?_;clear hK K;(try simp only[Act.put,OO,OJ,OQ]);replace KR0:=IJ ((kp _ II II).trans KR0.out);(try replace KH:=IJ ((kp _ II II).trans KH.out));(try replace E0:=IJ (zap (w':=Z) E0.out (fun b hb=>by have e_:q0=b:=Q3l;rw[← e_];exact kp _ II II)));(try replace OF0:=IJ (OF0.out.frame (w':=Z) (fun b hb=>kp b Q3s Q3s)));(try replace SP0:=IJ (zb9 (w':=Z) SP0.out (fun b hb=>kp b Q3t Q3t)));(try replace E1:=IJ (zap (w':=Z) E1.out (fun b hb=>by have e_:q1=b:=Q3l;rw[← e_];exact kp _ II II)));replace BB0:=IJ (BB0.out.trans (b_.mono II));clear b_ kp;rename World=>Y)|(go_simp;have b_:OI Y Y (Y.alloc (.cells #[] 119)):=(Below.refl _ _).alloc (Nat.le_refl _) _;refine hK.out _ _ (⟨(bat (BB0.out.trans (b_.mono II)) bp _ hbp).trans P0.out,(bat (BB0.out.trans (b_.mono II)) bp _ hbp).trans P1.out⟩) ?_;clear hK K;(try simp only[Act.put,OO,OJ,OQ]);have zz:Y.heap.size+1≤(Y.alloc (.cells #[] 119)).heap.size:=Q4a;have kp:∀ b,b<Y.heap.size→b≠Y.heap.size→(Y.alloc (.cells #[] 119)).heap[b]? = Y.heap[b]?:=fun b hb _=>b_.block b hb;replace KR0:=IJ ((kp _ II II).trans KR0.out);(try replace KH:=IJ ((kp _ II II).trans KH.out));(try replace OF0:=IJ (OF0.out.frame (w':=(Y.alloc (.cells #[] 119))) (fun b hb=>kp b Q3s Q3s)));(try replace SP0:=IJ (zb9 (w':=(Y.alloc (.cells #[] 119))) SP0.out (fun b hb=>kp b Q3t Q3t)));(try replace E1:=IJ (zap (w':=(Y.alloc (.cells #[] 119))) E1.out (fun b hb=>by have e_:q1=b:=Q3l;rw[← e_];exact kp _ II II)));(try replace OF1:=IJ (OF1.out.frame (w':=(Y.alloc (.cells #[] 119))) (fun b hb=>kp b Q3q Q3q)));(try replace SP1:=IJ (zb9 (w':=(Y.alloc (.cells #[] 119))) SP1.out (fun b hb=>kp b Q3r Q3r)));have E0:Hid ((Y.alloc (.cells #[] 119)).ownsRow Y.heap.size 119 4 (IZ (some ⟨Y,0,none⟩) 0 0) 0 []):=ze6 Y 119 4;replace BB0:=IJ (BB0.out.trans (b_.mono II));clear b_ kp;generalize (Y.alloc (.cells #[] 119))=Z at *;obtain⟨q0,q0_⟩:∃ g,g=Y.heap.size:=⟨_,rfl⟩;rw[← q0_] at E0 ⊢;have ga:=Nat.le_of_eq q0_;have gb:=Nat.le_of_eq q0_.symm;clear q0_;rename World=>Y)|(go_simp;have b_:OI Y Y (Y.alloc (.cells #[] 43)):=(Below.refl _ _).alloc (Nat.le_refl _) _;refine hK.out _ _ (⟨(bat (BB0.out.trans (b_.mono II)) bp _ hbp).trans P0.out,(bat (BB0.out.trans (b_.mono II)) bp _ hbp).trans P1.out⟩) ?_;clear hK K;(try simp only[Act.put,OO,OJ,OQ]);have zz:Y.heap.size+1≤(Y.alloc (.cells #[] 43)).heap.size:=Q4a;have kp:∀ b,b<Y.heap.size→b≠Y.heap.size→(Y.alloc (.cells #[] 43)).heap[b]? = Y.heap[b]?:=fun b hb _=>b_.block b hb;replace KR0:=IJ ((kp _ II II).trans KR0.out);(try replace KH:=IJ ((kp _ II II).trans KH.out));(try replace E0:=IJ (zap (w':=(Y.alloc (.cells #[] 43))) E0.out (fun b hb=>by have e_:q0=b:=Q3l;rw[← e_];exact kp _ II II)));(try replace OF0:=IJ (OF0.out.frame (w':=(Y.alloc (.cells #[] 43))) (fun b hb=>kp b Q3s Q3s)));(try replace SP0:=IJ (zb9 (w':=(Y.alloc (.cells #[] 43))) SP0.out (fun b hb=>kp b Q3t Q3t)));(try replace OF1:=IJ (OF1.out.frame (w':=(Y.alloc (.cells #[] 43))) (fun b hb=>kp b Q3q Q3q)));(try replace SP1:=IJ (zb9 (w':=(Y.alloc (.cells #[] 43))) SP1.out (fun b hb=>kp b Q3r Q3r)));have E1:Hid ((Y.alloc (.cells #[] 43)).ownsRow Y.heap.size 43 9 (IZ (some ⟨Y,0,none⟩) 0 0) 0 []):=ze6 Y 43 9;replace BB0:=IJ (BB0.out.trans (b_.mono II));clear b_ kp;generalize (Y.alloc (.cells #[] 43))=Z at *;obtain⟨q1,q1_⟩:∃ g,g=Y.heap.size:=⟨_,rfl⟩;rw[← q1_] at E1 ⊢;have ga:=Nat.le_of_eq q1_;have gb:=Nat.le_of_eq q1_.symm;clear q1_;rename World=>Y)|(go_simp;have b_:OI Y Y (Y.alloc (.cells () 32)):=(Below.refl _ _).alloc (Nat.le_refl _) _;refine hK.out _ _ (⟨(bat (BB0.out.trans (b_.mono II)) bp _ hbp).trans P0.out,(bat (BB0.out.trans (b_.mono II)) bp _ hbp).trans P1.out⟩) ?_;clear hK K;(try simp only[Act.put,OO,OJ,OQ]);have zz:Y.heap.size+1≤(Y.alloc (.cells () 32)).heap.size:=Q4a;have kp:∀ b,b<Y.heap.size→b≠Y.heap.size→(Y.alloc (.cells () 32)).heap[b]? = Y.heap[b]?:=fun b hb _=>b_.block b hb;replace KR0:=IJ ((kp _ II II).trans KR0.out);(try replace E0:=IJ (zap (w':=(Y.alloc (.cells () 32))) E0.out (fun b hb=>by have e_:q0=b:=Q3l;rw[← e_];exact kp _ II II)));(try replace OF0:=IJ (OF0.out.frame (w':=(Y.alloc (.cells () 32))) (fun b hb=>kp b Q3s Q3s)));(try replace SP0:=IJ (zb9 (w':=(Y.alloc (.cells () 32))) SP0.out (fun b hb=>kp b Q3t Q3t)));(try replace E1:=IJ (zap (w':=(Y.alloc (.cells () 32))) E1.out (fun b hb=>by have e_:q1=b:=Q3l;rw[← e_];exact kp _ II II)));(try replace OF1:=IJ (OF1.out.frame (w':=(Y.alloc (.cells () 32))) (fun b hb=>kp b Q3q Q3q)));(try replace SP1:=IJ (zb9 (w':=(Y.alloc (.cells () 32))) SP1.out (fun b hb=>kp b Q3r Q3r)));have KH:Hid ((Y.alloc (.cells () 32)).heap[Y.heap.size]? = some (.cells () 32 (0,0))):=blkN Y _ _;replace BB0:=IJ (BB0.out.trans (b_.mono II));clear b_ kp;generalize (Y.alloc (.cells () 32))=Z at *;obtain⟨h,h_⟩:∃ g,g=Y.heap.size:=⟨_,rfl⟩;rw[← h_] at KH ⊢;have ga:=Nat.le_of_eq h_;have gb:=Nat.le_of_eq h_.symm;clear h_;rename World=>Y))))
   | (refine zat ?_;simp only[List.drop_succ_cons,List.drop_zero];obtain⟨g0,g1,g2,g3⟩:=blk4 KH.out;have fz:=blkF KH.out;go_wp2_with fail;go_meet;exact⟨h,a0,c0,a1,c1,f0,f1,rfl,II,by simp only[zac];omega,by have:=blkS (blkS (blkS (blkS KH.out 0 (IZ a0 n.sites.length c0)) 1 (IZ a1 n.sectors.length c1)) 2 (IZ none 0 0)) 3 (IZ none 0 0);simpa using this,blkO (blkO (blkO (blkO (KR0.out) (p:=⟨h,0,none⟩) (by show w.heap.size≠h;omega) _) (p:=⟨h,1,none⟩) (by show w.heap.size≠h;omega) _) (p:=⟨h,2,none⟩) (by show w.heap.size≠h;omega) _) (p:=⟨h,3,none⟩) (by show w.heap.size≠h;omega) _,((((OF0.out).setFar (p:=⟨h,0,none⟩) (fun e=>by have:=FB0.out _ e;simp only at this;omega) _).setFar (p:=⟨h,1,none⟩) (fun e=>by have:=FB0.out _ e;simp only at this;omega) _).setFar (p:=⟨h,2,none⟩) (fun e=>by have:=FB0.out _ e;simp only at this;omega) _).setFar (p:=⟨h,3,none⟩) (fun e=>by have:=FB0.out _ e;simp only at this;omega) _,((((OF1.out).setFar (p:=⟨h,0,none⟩) (fun e=>by have:=FB1.out _ e;simp only at this;omega) _).setFar (p:=⟨h,1,none⟩) (fun e=>by have:=FB1.out _ e;simp only at this;omega) _).setFar (p:=⟨h,2,none⟩) (fun e=>by have:=FB1.out _ e;simp only at this;omega) _).setFar (p:=⟨h,3,none⟩) (fun e=>by have:=FB1.out _ e;simp only at this;omega) _,fun y hy=>⟨⟨by have:=FB0.out y hy;omega,by have:=FB0.out y hy;simp only[zac];omega⟩,by have:=FB0.out y hy;omega,fun hy2=>by have:=FB0.out y hy;have:=FB1.out y hy2;omega⟩,fun y hy=>⟨⟨by have:=FB1.out y hy;omega,by have:=FB1.out y hy;simp only[zac];omega⟩,by have:=FB1.out y hy;omega⟩,((((BB0.out).setCell (p:=⟨h,0,none⟩) (by show w.heap.size≤h;omega) _).setCell (p:=⟨h,1,none⟩) (by show w.heap.size≤h;omega) _).setCell (p:=⟨h,2,none⟩) (by show w.heap.size≤h;omega) _).setCell (p:=⟨h,3,none⟩) (by show w.heap.size≤h;omega) _,⟨spr_mono (zb9 (zb9 (zb9 (zb9 (SP0.out) (fun g hg=>Below.heap_setCell _ ⟨h,0,none⟩ _ g Q3h)) (fun g hg=>Below.heap_setCell _ ⟨h,1,none⟩ _ g Q3h)) (fun g hg=>Below.heap_setCell _ ⟨h,2,none⟩ _ g Q3h)) (fun g hg=>Below.heap_setCell _ ⟨h,3,none⟩ _ g Q3h)) II,fun y hy=>⟨⟨by have:=SB0.out y hy;omega,by have:=SB0.out y hy;simp only[zac];omega⟩,by have:=SB0.out y hy;omega⟩⟩,⟨spr_mono (zb9 (zb9 (zb9 (zb9 (SP1.out) (fun g hg=>Below.heap_setCell _ ⟨h,0,none⟩ _ g Q3i)) (fun g hg=>Below.heap_setCell _ ⟨h,1,none⟩ _ g Q3i)) (fun g hg=>Below.heap_setCell _ ⟨h,2,none⟩ _ g Q3i)) (fun g hg=>Below.heap_setCell _ ⟨h,3,none⟩ _ g Q3i)) II,fun y hy=>⟨⟨by have:=SB1.out y hy;omega,by have:=SB1.out y hy;simp only[zac];omega⟩,by have:=SB1.out y hy;omega⟩⟩,SC0.out,SC1.out⟩))
 case rest =>
  obtain⟨h,a0,c0,a1,c1,f0,f1,rfl,hh0,hh1,kh,kr,o0,o1,fb0,fb1,bb,sr0,sr1,sc0,sc1⟩:=hcut;have KH8:=IJ kh;have KR8:=IJ kr;have O0_8:=IJ o0;have O1_8:=IJ o1;have F0:=IJ fb0;have F1:=IJ fb1;have BB8:=IJ bb;have SR0:=IJ sr0.2;have SC0:=IJ sc0;have SC1:=IJ sc1;have SR1:=IJ sr1.2;have S0_8:=IJ sr0.1;have S1_8:=IJ sr1.1;clear kh kr o0 o1 fb0 fb1 bb sr0 sr1 sc0 sc1 BB0 KR0 z0 DS0 DS1 XS0 XS1 ON0 ON1;generalize wc=W8 at *;have y8:w.heap.size<W8.heap.size:=II
  go_wp2;go_loopw [4] (fun i wr=>∃ (k:Nat) (a:Option Addr) (c:Nat) (f:List Nat),k≤n.antennas.length∧i=J k∧wr.heap[h]? = some (.cells #[IZ a0 n.sites.length c0,IZ a1 n.sectors.length c1,IZ a k c,IZ none 0 0] 32 (0,0))∧Grow wr W8.heap.size 121 4 (IZ a k c) k ((n.antennas.take k).flatMap DAntenna.tr) f∧In W8 wr f∧Chg [h] W8 wr) (fun i wr=>n.antennas.length-(intOf i).toNat)
  case atStart=>exact⟨0,none,0,[],Nat.zero_le _,rfl,KH8.out,by simpa using Grow.nil,In.nil,Chg.refl _ _⟩
  case round =>
   obtain⟨k,a,c,f,hk,rfl,hkh,hgr,hin,hch⟩:=hrel;have zr:W8.heap.size≤wr.heap.size:=hch.size;have bWr:OI w w wr:=BB8.out.trans (hch.below II Q41);have pQ:=(bat bWr bp _ hbp).trans P2.out;have KHr:=IJ hkh;have HG:=IJ hgr;have HCH:=IJ hch;have BWr:=IJ bWr;clear hkh hgr hch bWr
   by_cases hlt:k<n.antennas.length
   ·obtain⟨b,off,eA,hbl,hat⟩:=CA.out II
    subst eA;obtain⟨s0,s1,⟨u2,s2,ru2⟩,⟨u3,s3,ru3⟩⟩:=hat k hlt;have HO:Hid (∀ W:World,OI w w W→Calls Tryz.prog 193 #[.pointer (some ⟨b,off+k*4,none⟩)] W fun e w'=>∃ b2 d2 b3 d3 fp,e=.returned (.agg (n.antennas[k],b2,d2,b3,d3))∧OI W W w'∧OwnV w' n.antennas[k].tr [IQ n.antennas[k].name,J n.antennas[k].gain,IZ b2 n.antennas[k].horizontal.length d2,IZ b3 n.antennas[k].vertical.length d3] fp∧In W w'.heap.size fp):=fun W hW=>l06Own_any n.antennas[k] u2 u3 b (off+k*4) W ((ru2.below hW).mono hW.size) ((ru3.below hW).mono hW.size) (Nat.lt_of_lt_of_le hbl hW.size) ((bat hW b _ hbl).trans s0) ((bat hW b _ hbl).trans s1) ((bat hW b _ hbl).trans s2) ((bat hW b _ hbl).trans s3) (LA.out k hlt).1 (LA.out k hlt).2
    have i1:(0:Int)≤(k:Int):=II
    have i2:(k:Int)<(n.antennas.length:Int):=II
    clear hat s0 s1 s2 s3 ru2 ru3;have bd:OI wr wr wr.drew:=(Below.refl _ _).drew;have KHd:Hid (wr.drew.heap[h]? = some (.cells #[IZ a0 n.sites.length c0,IZ a1 n.sectors.length c1,IZ a k c,IZ none 0 0] 32 (0,0))):=KHr.out;have BWd:Hid (OI w w wr.drew):=BWr.out.drew;have HGd:=IJ (HG.out.below hin bd);have obk:∀ y,(Value.slice a k c).ownBlock=some y→y<wr.drew.heap.size:=fun y hy=>(HGd.out.block hy).2
    have OBK:=IJ obk;clear obk;have zd:wr.heap.size≤wr.drew.heap.size:=Nat.le_refl _;have CHd:Hid (Chg [h] W8 wr.drew):=HCH.out.drew;have hind:In W8 wr.drew.heap.size f:=hin;go_wp2;clear pQ KHr HG HCH BWr bd hin;refine zbj 10 [(0,true),(1,true),(2,true),(3,true),(4,true),(5,true),(6,true),(7,true),(8,false),(9,false)] (fun W=>(W,h,2,IZ a k c)∧(W,bp,2,IZ (some ⟨b,off,none⟩) n.antennas.length C2)) JI JI (⟨blkC (KHd.out) 2 rfl,(bat (BWd.out) bp _ hbp).trans P2.out⟩) (fun hHeld=>?_);generalize wr.drew=Y0 at *;clear hHeld;refine zaj (v:=?_) rfl (fun _ _ _ h=>h) ?_ ?_
    rotate_left
    ·exact Q06
    (try simp only[Act.put,OO,OJ,OQ])
    refine zaj (v:=?_) rfl (fun _ _ _ h=>h) ?_ ?_
    rotate_left
    ·exact Q06
    (try simp only[Act.put,OO,OJ,OQ])
    refine zaj (v:=?_) rfl (fun _ _ _ h=>h) ?_ ?_
    rotate_left
    ·exact Q06
    (try simp only[Act.put,OO,OJ,OQ])
    refine zaj (v:=?_) rfl (fun _ _ _ h=>h) ?_ ?_
    rotate_left
    ·exact Q06
    (try simp only[Act.put,OO,OJ,OQ])
    refine zaj (v:=?_) rfl (fun _ _ _ h=>h) ?_ ?_
    rotate_left
    ·exact Q06
    (try simp only[Act.put,OO,OJ,OQ])
    refine zaj (v:=?_) rfl (fun _ _ _ h=>h) ?_ ?_
    rotate_left
    ·exact Q06
    (try simp only[Act.put,OO,OJ,OQ])
    refine zaj (v:=?_) rfl (fun _ _ _ h=>h) ?_ ?_
    rotate_left
    ·exact Q06
    (try simp only[Act.put,OO,OJ,OQ])
    refine zaj (v:=?_) rfl (fun _ _ _ h=>h) ?_ ?_
    rotate_left
    ·exact Q06
    (try simp only[Act.put,OO,OJ,OQ])
    refine zbd rfl (fun K hK=>?_);go_simp;refine (HO.out _ BWd.out).mono ?_;rintro e Y1 ⟨b2,d2,b3,d3,fp,rfl,hb,ov,iv⟩;refine hK.out _ _ (⟨blkC (blkB KHd.out hb II) 2 rfl,(bat (BWd.out.trans (hb.mono II)) bp _ hbp).trans P2.out⟩) ?_;clear hK K
    (try simp only[Act.put,OO,OJ,OQ])
    have KH1:=IJ (blkB KHd.out hb II);have BW1:=IJ (BWd.out.trans (hb.mono II));have G1:=IJ (HGd.out.below hind hb);have z1:Y0.heap.size≤Y1.heap.size:=hb.size;have CH1:=IJ (CHd.out.thenBelow (hb.mono II));have OV:=IJ ov;have bA:OI Y1 Y1 (Y1.alloc (.cells (n.antennas[k],b2,d2,b3,d3) 121)):=(Below.refl _ _).alloc (Nat.le_refl _) _;clear hb ov KHd BWd HGd CHd;refine zbd rfl (fun K hK=>?_);go_simp;refine hK.out _ _ (⟨blkC (blkB KH1.out bA II) 2 rfl,(bat (BW1.out.trans (bA.mono II)) bp _ hbp).trans P2.out⟩) ?_;clear hK K
    (try simp only[Act.put,OO,OJ,OQ])
    clear bA;refine zcp ?_;simp only[List.drop_succ_cons,List.drop_zero];have g_ob:∀ y,(Value.slice a k c).ownBlock=some y→W8.heap.size≤y∧y<Y0.heap.size:=fun y hy=>by
     have h1:=(G1.out.block hy)
     exact⟨h1.1,OBK.out y hy⟩
    have GOB:=IJ g_ob;clear g_ob;go_wp2_with (at_builtin;refine zax rfl (.tmp 29) (.tmp 37) _ rfl W8.heap.size 121 iA _ 4 72 Tryz.underlying29 hA0 hA1 hA2 hA3 rfl II _ _ _ f rfl G1.out [IQ n.antennas[k].name,J n.antennas[k].gain,IZ b2 n.antennas[k].horizontal.length d2,IZ b3 n.antennas[k].vertical.length d3] n.antennas[k].tr fp rfl 1 rfl (fun u hu=>by simp only[List.mem_cons,List.not_mem_nil,or_false] at hu;rcases hu with rfl|rfl|rfl|rfl<;>rfl) OV.out.rep OV.out.nd OV.out.free W8.heap.size (hind.mono (Nat.le_refl _) z1) (iv.mono II (Nat.le_refl _)) (fun y h1 h2=>by have:=(iv y h1).1;have:=(hind y h2).2;omega) (fun y hy h2=>by have:=(iv y h2).1;have:=(GOB.out y hy).2;omega) Q3u II II ?_;intro v4 w2 hgn;obtain⟨a4,c4,e4⟩:=hgn.grow.slice;subst e4;have kh2:=(hgn.keep h II (fun e=>by have:=(GOB.out h e).1;omega)).trans KH1.out;have KH2:=IJ kh2;obtain⟨m0,m1,m2,m3⟩:=blk4 kh2;have mz:=blkF kh2;have HGN:=IJ hgn;clear hgn kh2);go_roundw
    case rel =>
     refine⟨k+1,a4,c4,f++fp,II,by go_num,?_,?_,?_,?_⟩
     ·have:=blkS KH2.out 2 (IZ a4 (k+1) c4)
      simpa using this
     ·rw[flat_take_succ DAntenna.tr n.antennas k hlt]
      exact HGN.out.grow.frame (fun y hy=>Below.heap_setCell _ _ _ _ (by have:=(HGN.out.grow.block hy).1;show y≠h;omega)) (fun y hy=>Below.heap_setCell _ _ _ _ (by
       show y≠h
       rcases List.mem_append.1 hy with hy|hy
       ·have:=(hind y hy).1;omega
       ·have:=(iv y hy).1;omega))
     ·simp only[zac]
      have:=HGN.out.size;exact (hind.mono (Nat.le_refl _) II).append (iv.mono II II)
     ·exact (CH1.out.thenBelow HGN.out.below).setCell Q4a _
    case measure=>simp[intOf];omega
   ·obtain rfl:k=n.antennas.length:=II
    obtain⟨W9,ew⟩:∃ W:World,W=wr:=⟨_,rfl⟩
    subst ew;rw[List.take_length] at HG;obtain⟨G2,OG,IG,-⟩:=HG.out.toOwnB (lo:=W8.heap.size) Q48 hin (Nat.le_refl _);have O2_9:=IJ OG;have KH9:=IJ KHr.out;have KR9:=IJ ((HCH.out.block w.heap.size II Q41).trans KR8.out);have BB9:=IJ BWr.out;have O0_9:=IJ (O0_8.out.chg (lo:=w.heap.size) (hi:=W8.heap.size) (fun y hy=>by have:=F0.out y hy;omega) (Nat.le_refl _) HCH.out (fun y hy e=>by have:=F0.out y hy;simp at e;omega));have O1_9:=IJ (O1_8.out.chg (lo:=w.heap.size) (hi:=W8.heap.size) (fun y hy=>by have:=F1.out y hy;omega) (Nat.le_refl _) HCH.out (fun y hy e=>by have:=F1.out y hy;simp at e;omega));have S0_9:Hid (∃ xs,W9.ownsRow (w.heap.size+1) 119 4 (IZ a0 n.sites.length c0) n.sites.length xs):=by
     obtain⟨xs,hx⟩:=S0_8.out;exact⟨xs,zap hx (fun g hg=>HCH.out.block g (by have:=SR0.out g hg;omega) (by have:=SR0.out g hg;simp<;>omega))⟩
    have S1_9:Hid (∃ xs,W9.ownsRow (w.heap.size+1) 43 9 (IZ a1 n.sectors.length c1) n.sectors.length xs):=by
     obtain⟨xs,hx⟩:=S1_8.out;exact⟨xs,zap hx (fun g hg=>HCH.out.block g (by have:=SR1.out g hg;omega) (by have:=SR1.out g hg;simp<;>omega))⟩
    have IG2:=IG;clear OG IG hin HCH KHr BWr HG hlt KH8 KR8 BB8 O0_8 O1_8 S0_8 S1_8;obtain⟨a2,ea⟩:∃ x,x=a:=⟨_,rfl⟩
    obtain⟨c2,ec⟩:∃ x,x=c:=⟨_,rfl⟩
    subst ea ec;go_wp2;clear pQ;go_loopw [5] (fun i wr=>∃ (k:Nat) (a:Option Addr) (c:Nat) (f:List Nat),k≤n.radios.length∧i=J k∧wr.heap[h]? = some (.cells #[IZ a0 n.sites.length c0,IZ a1 n.sectors.length c1,IZ a2 n.antennas.length c2,IZ a k c] 32 (0,0))∧Grow wr W9.heap.size 125 6 (IZ a k c) k ((n.radios.take k).flatMap DRadio.tr) f∧In W9 wr f∧Chg [h] W9 wr) (fun i wr=>n.radios.length-(intOf i).toNat)
    case atStart=>exact⟨0,none,0,[],Nat.zero_le _,rfl,KH9.out,by simpa using Grow.nil,In.nil,Chg.refl _ _⟩
    case round =>
     obtain⟨k,a,c,f,hk,rfl,hkh,hgr,hin,hch⟩:=hrel;have zr:W9.heap.size≤wr.heap.size:=hch.size;have bWr:OI w w wr:=BB9.out.trans (hch.below II Q41);have pQ:=(bat bWr bp _ hbp).trans P3.out;have KHr:=IJ hkh;have HG:=IJ hgr;have HCH:=IJ hch;have BWr:=IJ bWr;clear hkh hgr hch bWr
     by_cases hlt:k<n.radios.length
     ·obtain⟨b,off,eA,hbl,hat⟩:=CR.out II
      subst eA;obtain⟨s0,s1,s2,s3,s4,⟨u5,s5,ru5⟩⟩:=hat k hlt;have HO:Hid (∀ W:World,OI w w W→Calls Tryz.prog 194 #[.pointer (some ⟨b,off+k*6,none⟩)] W fun e w'=>∃ b5 d5 fp,e=.returned (.agg (n.radios[k],b5,d5))∧OI W W w'∧OwnV w' n.radios[k].tr [IQ n.radios[k].name,J n.radios[k].power,J n.radios[k].feeder,J n.radios[k].noise,J n.radios[k].width,IZ b5 n.radios[k].modes.length d5] fp∧In W w'.heap.size fp):=fun W hW=>l07Own_any n.radios[k] u5 b (off+k*6) W ((ru5.below hW).mono hW.size) (Nat.lt_of_lt_of_le hbl hW.size) ((bat hW b _ hbl).trans s0) ((bat hW b _ hbl).trans s1) ((bat hW b _ hbl).trans s2) ((bat hW b _ hbl).trans s3) ((bat hW b _ hbl).trans s4) ((bat hW b _ hbl).trans s5) (LR.out k hlt)
      have i1:(0:Int)≤(k:Int):=II
      have i2:(k:Int)<(n.radios.length:Int):=II
      clear hat s0 s1 s2 s3 s4 s5 ru5;have bd:OI wr wr wr.drew:=(Below.refl _ _).drew;have KHd:Hid (wr.drew.heap[h]? = some (.cells #[IZ a0 n.sites.length c0,IZ a1 n.sectors.length c1,IZ a2 n.antennas.length c2,IZ a k c] 32 (0,0))):=KHr.out;have BWd:Hid (OI w w wr.drew):=BWr.out.drew;have HGd:=IJ (HG.out.below hin bd);have obk:∀ y,(Value.slice a k c).ownBlock=some y→y<wr.drew.heap.size:=fun y hy=>(HGd.out.block hy).2
      have OBK:=IJ obk;clear obk;have zd:wr.heap.size≤wr.drew.heap.size:=Nat.le_refl _;have CHd:Hid (Chg [h] W9 wr.drew):=HCH.out.drew;have hind:In W9 wr.drew.heap.size f:=hin;go_wp2;clear pQ KHr HG HCH BWr bd hin;refine zbj 10 [(0,true),(1,true),(2,true),(3,true),(4,true),(5,true),(6,true),(7,true),(8,false),(9,false)] (fun W=>(W,h,3,IZ a k c)∧(W,bp,3,IZ (some ⟨b,off,none⟩) n.radios.length C3)) JI JI (⟨blkC (KHd.out) 3 rfl,(bat (BWd.out) bp _ hbp).trans P3.out⟩) (fun hHeld=>?_);generalize wr.drew=Y0 at *;clear hHeld;refine zaj (v:=?_) rfl (fun _ _ _ h=>h) ?_ ?_
      rotate_left
      ·exact Q06
      (try simp only[Act.put,OO,OJ,OQ])
      refine zaj (v:=?_) rfl (fun _ _ _ h=>h) ?_ ?_
      rotate_left
      ·exact Q06
      (try simp only[Act.put,OO,OJ,OQ])
      refine zaj (v:=?_) rfl (fun _ _ _ h=>h) ?_ ?_
      rotate_left
      ·exact Q06
      (try simp only[Act.put,OO,OJ,OQ])
      refine zaj (v:=?_) rfl (fun _ _ _ h=>h) ?_ ?_
      rotate_left
      ·exact Q06
      (try simp only[Act.put,OO,OJ,OQ])
      refine zaj (v:=?_) rfl (fun _ _ _ h=>h) ?_ ?_
      rotate_left
      ·exact Q06
      (try simp only[Act.put,OO,OJ,OQ])
      refine zaj (v:=?_) rfl (fun _ _ _ h=>h) ?_ ?_
      rotate_left
      ·exact Q06
      (try simp only[Act.put,OO,OJ,OQ])
      refine zaj (v:=?_) rfl (fun _ _ _ h=>h) ?_ ?_
      rotate_left
      ·exact Q06
      (try simp only[Act.put,OO,OJ,OQ])
      refine zaj (v:=?_) rfl (fun _ _ _ h=>h) ?_ ?_
      rotate_left
      ·exact Q06
      (try simp only[Act.put,OO,OJ,OQ])
      refine zbd rfl (fun K hK=>?_);go_simp;refine (HO.out _ BWd.out).mono ?_;rintro e Y1 ⟨b5,d5,fp,rfl,hb,ov,iv⟩;refine hK.out _ _ (⟨blkC (blkB KHd.out hb II) 3 rfl,(bat (BWd.out.trans (hb.mono II)) bp _ hbp).trans P3.out⟩) ?_;clear hK K
      (try simp only[Act.put,OO,OJ,OQ])
      have KH1:=IJ (blkB KHd.out hb II);have BW1:=IJ (BWd.out.trans (hb.mono II));have G1:=IJ (HGd.out.below hind hb);have z1:Y0.heap.size≤Y1.heap.size:=hb.size;have CH1:=IJ (CHd.out.thenBelow (hb.mono II));have OV:=IJ ov;have bA:OI Y1 Y1 (Y1.alloc (.cells (n.radios[k],b5,d5) 125)):=(Below.refl _ _).alloc (Nat.le_refl _) _;clear hb ov KHd BWd HGd CHd;refine zbd rfl (fun K hK=>?_);go_simp;refine hK.out _ _ (⟨blkC (blkB KH1.out bA II) 3 rfl,(bat (BW1.out.trans (bA.mono II)) bp _ hbp).trans P3.out⟩) ?_;clear hK K
      (try simp only[Act.put,OO,OJ,OQ])
      clear bA;refine zcp ?_;simp only[List.drop_succ_cons,List.drop_zero];have g_ob:∀ y,(Value.slice a k c).ownBlock=some y→W9.heap.size≤y∧y<Y0.heap.size:=fun y hy=>by
       have h1:=(G1.out.block hy)
       exact⟨h1.1,OBK.out y hy⟩
      have GOB:=IJ g_ob;clear g_ob;go_wp2_with (at_builtin;refine zax rfl (.tmp 50) (.tmp 58) _ rfl W9.heap.size 125 iR _ 6 72 Tryz.underlying30 hR0 hR1 hR2 hR3 rfl II _ _ _ f rfl G1.out [IQ n.radios[k].name,J n.radios[k].power,J n.radios[k].feeder,J n.radios[k].noise,J n.radios[k].width,IZ b5 n.radios[k].modes.length d5] n.radios[k].tr fp rfl 1 rfl (fun u hu=>by simp only[List.mem_cons,List.not_mem_nil,or_false] at hu;rcases hu with rfl|rfl|rfl|rfl|rfl|rfl<;>rfl) OV.out.rep OV.out.nd OV.out.free W9.heap.size (hind.mono (Nat.le_refl _) z1) (iv.mono II (Nat.le_refl _)) (fun y h1 h2=>by have:=(iv y h1).1;have:=(hind y h2).2;omega) (fun y hy h2=>by have:=(iv y h2).1;have:=(GOB.out y hy).2;omega) Q3u II II ?_;intro v4 w2 hgn;obtain⟨a4,c4,e4⟩:=hgn.grow.slice;subst e4;have kh2:=(hgn.keep h II (fun e=>by have:=(GOB.out h e).1;omega)).trans KH1.out;have KH2:=IJ kh2;obtain⟨m0,m1,m2,m3⟩:=blk4 kh2;have mz:=blkF kh2;have HGN:=IJ hgn;clear hgn kh2);go_roundw
      case rel =>
       refine⟨k+1,a4,c4,f++fp,II,by go_num,?_,?_,?_,?_⟩
       ·have:=blkS KH2.out 3 (IZ a4 (k+1) c4)
        simpa using this
       ·rw[flat_take_succ DRadio.tr n.radios k hlt]
        exact HGN.out.grow.frame (fun y hy=>Below.heap_setCell _ _ _ _ (by have:=(HGN.out.grow.block hy).1;show y≠h;omega)) (fun y hy=>Below.heap_setCell _ _ _ _ (by
         show y≠h
         rcases List.mem_append.1 hy with hy|hy
         ·have:=(hind y hy).1;omega
         ·have:=(iv y hy).1;omega))
       ·simp only[zac]
        have:=HGN.out.size;exact (hind.mono (Nat.le_refl _) II).append (iv.mono II II)
       ·exact (CH1.out.thenBelow HGN.out.below).setCell Q4a _
      case measure=>simp[intOf];omega
     ·obtain rfl:k=n.radios.length:=II
      obtain⟨W10,ew⟩:∃ W:World,W=wr:=⟨_,rfl⟩
      subst ew;rw[List.take_length] at HG;obtain⟨G3,OG,IG,-⟩:=HG.out.toOwnB (lo:=W9.heap.size) Q48 hin (Nat.le_refl _);have O3_10:=IJ OG;have KH10:=IJ KHr.out;have KR10:=IJ ((HCH.out.block w.heap.size II Q41).trans KR9.out);have BB10:=IJ BWr.out;have O0_10:=IJ (O0_9.out.chg (lo:=w.heap.size) (hi:=W9.heap.size) (fun y hy=>by have:=F0.out y hy;omega) (Nat.le_refl _) HCH.out (fun y hy e=>by have:=F0.out y hy;simp at e;omega));have O1_10:=IJ (O1_9.out.chg (lo:=w.heap.size) (hi:=W9.heap.size) (fun y hy=>by have:=F1.out y hy;omega) (Nat.le_refl _) HCH.out (fun y hy e=>by have:=F1.out y hy;simp at e;omega));have S0_10:Hid (∃ xs,W10.ownsRow (w.heap.size+1) 119 4 (IZ a0 n.sites.length c0) n.sites.length xs):=by
       obtain⟨xs,hx⟩:=S0_9.out;exact⟨xs,zap hx (fun g hg=>HCH.out.block g (by have:=SR0.out g hg;omega) (by have:=SR0.out g hg;simp<;>omega))⟩
      have S1_10:Hid (∃ xs,W10.ownsRow (w.heap.size+1) 43 9 (IZ a1 n.sectors.length c1) n.sectors.length xs):=by
       obtain⟨xs,hx⟩:=S1_9.out;exact⟨xs,zap hx (fun g hg=>HCH.out.block g (by have:=SR1.out g hg;omega) (by have:=SR1.out g hg;simp<;>omega))⟩
      have O2_10:=IJ (O2_9.out.chg IG2 (Nat.le_refl _) HCH.out (fun y hy e=>by have:=(IG2 y hy).1;simp at e;omega));have IG3:=IG;clear OG IG hin HCH KHr BWr HG hlt KH9 KR9 BB9 O0_9 O1_9 S0_9 S1_9 O2_9;obtain⟨a3,ea⟩:∃ x,x=a:=⟨_,rfl⟩
      obtain⟨c3,ec⟩:∃ x,x=c:=⟨_,rfl⟩
      subst ea ec;have z10:W9.heap.size≤W10.heap.size:=zr
      have ov:OwnV W10 n.tr [IZ a0 n.sites.length c0,IZ a1 n.sectors.length c1,IZ a2 n.antennas.length c2,IZ a3 n.radios.length c3] (f0++(f1++(G2++(G3++[])))):=OwnV.cons O0_10.out (OwnV.cons O1_10.out (OwnV.cons O2_10.out (OwnV.cons O3_10.out OwnV.nil Q4a) (fun x h1 h2=>by
        simp only[List.append_nil] at h2;have:=(IG2 x h1).2;have:=(IG3 x h2).1;omega)) (fun x h1 h2=>by
        have:=F1.out x h1
        rcases List.mem_append.1 h2 with h2|h2
        ·have:=(IG2 x h2).1;omega
        ·simp only[List.append_nil] at h2;have:=(IG3 x h2).1;omega)) (fun x h1 h2=>by
        have:=F0.out x h1
        rcases List.mem_append.1 h2 with h2|h2
        ·exact this.2.2 h2
        rcases List.mem_append.1 h2 with h2|h2
        ·have:=(IG2 x h2).1;omega
        ·simp only[List.append_nil] at h2;have:=(IG3 x h2).1;omega)
      have iv:In (w.heap.size+1) W10.heap.size (f0++(f1++(G2++(G3++[])))):=by
       refine In.append (fun y hy=>?_) (In.append (fun y hy=>?_) ((IG2.mono II II).append ((IG3.mono II II).append In.nil)))
       ·have:=F0.out y hy;omega
       ·have:=F1.out y hy;omega
      have OVF:=IJ ov;have IVF:=IJ iv;obtain⟨t0,t1,t2,t3⟩:=blk4 KH10.out;obtain⟨g0,g1,g2,g3⟩:=blk4 KR10.out;have fz:=blkF KR10.out;clear ov iv;go_wp2;have BF:=IJ (((((BB10.out).setCell (p:=⟨w,0,none⟩) (Nat.le_refl _) (IZ a0 n.sites.length c0)).setCell (p:=⟨w,1,none⟩) (Nat.le_refl _) (IZ a1 n.sectors.length c1)).setCell (p:=⟨w,2,none⟩) (Nat.le_refl _) (IZ a2 n.antennas.length c2)).setCell (p:=⟨w,3,none⟩) (Nat.le_refl _) (IZ a3 n.radios.length c3));have OF:=IJ (((((OVF.out).setFar (p:=⟨w,0,none⟩) (fun e=>by have:=(IVF.out _ e).1;simp only at this;omega) (IZ a0 n.sites.length c0)).setFar (p:=⟨w,1,none⟩) (fun e=>by have:=(IVF.out _ e).1;simp only at this;omega) (IZ a1 n.sectors.length c1)).setFar (p:=⟨w,2,none⟩) (fun e=>by have:=(IVF.out _ e).1;simp only at this;omega) (IZ a2 n.antennas.length c2)).setFar (p:=⟨w,3,none⟩) (fun e=>by have:=(IVF.out _ e).1;simp only at this;omega) (IZ a3 n.radios.length c3));have sp0:SpB W10 (w.heap.size+1) W10.heap.size 119 4 (IZ a0 n.sites.length c0) n.sites.length:=⟨S0_10.out,fun g hg=>by have:=SR0.out g hg;omega,fun h a m c e=>(Value.slice.inj e).2.2.symm.trans (SC0.out h)⟩
      have sp1:SpB W10 (w.heap.size+1) W10.heap.size 43 9 (IZ a1 n.sectors.length c1) n.sectors.length:=⟨S1_10.out,fun g hg=>by have:=SR1.out g hg;omega,fun h a m c e=>(Value.slice.inj e).2.2.symm.trans (SC1.out h)⟩
      have SF0:=IJ (((((sp0.setFar (p:=⟨w,0,none⟩) (Or.inl (Nat.lt_succ_self _)) (IZ a0 n.sites.length c0)).setFar (p:=⟨w,1,none⟩) (Or.inl (Nat.lt_succ_self _)) (IZ a1 n.sectors.length c1)).setFar (p:=⟨w,2,none⟩) (Or.inl (Nat.lt_succ_self _)) (IZ a2 n.antennas.length c2)).setFar (p:=⟨w,3,none⟩) (Or.inl (Nat.lt_succ_self _)) (IZ a3 n.radios.length c3)).mono (Nat.le_succ w.heap.size) (Nat.le_refl _));have SF1:=IJ (((((sp1.setFar (p:=⟨w,0,none⟩) (Or.inl (Nat.lt_succ_self _)) (IZ a0 n.sites.length c0)).setFar (p:=⟨w,1,none⟩) (Or.inl (Nat.lt_succ_self _)) (IZ a1 n.sectors.length c1)).setFar (p:=⟨w,2,none⟩) (Or.inl (Nat.lt_succ_self _)) (IZ a2 n.antennas.length c2)).setFar (p:=⟨w,3,none⟩) (Or.inl (Nat.lt_succ_self _)) (IZ a3 n.radios.length c3)).mono (Nat.le_succ w.heap.size) (Nat.le_refl _));refine bodyPost_ret (v:=.agg (n,a0,c0,a1,c1,a2,c2,a3,c3)) (by simp[results,Tryz.results142,go_sem, *]) rfl ⟨a0,c0,a1,c1,a2,c2,a3,c3,_,rfl,BF.out,OF.out,?_⟩;simp only[zac];exact⟨IVF.out.mono II (Nat.le_refl _),SF0.out,SF1.out⟩
end Go.Proofs.YtpakghepnahooaaGreatDoor
