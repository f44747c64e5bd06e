/- The walk of the law FnLimits: it returns true. -/
import Derived.Test.YtpakghepnahooaaGreatDoorDw9
import Derived.Test.YtpakghepnahooaaGreatDoorDw10
import Derived.Test.YtpakghepnahooaaGreatDoorLyE
set_option linter.unusedVariables false
set_option linter.unusedSimpArgs false
namespace Go.Proofs.YtpakghepnahooaaGreatDoor
set_option maxHeartbeats 16000000
set_option maxRecDepth 100000
open Go.RowKit
structure AlS (b k c:Nat) (w0 w:World) (q f g hi:Nat) (t:DTerrain) (v3 v4:Value) (n:DNetwork) (u0 u1 u2 u3:Value):Prop where
 src:∃ k',k≤k'∧k'≤k+c∧Src w b k'
 chg:Chg [b] w0 w
 h1:w.heap[q]? = some (.cells #[J 0,J 0,J 0,IZ none 0 0,IZ none 0 0] 26 (0,0))
 h2:w.heap[q+1]? = some (.cells #[IZ none 0 0,IZ none 0 0,IZ none 0 0,IZ none 0 0] 32 (0,0))
 h3:w.heap[q+2]? = some (.cells #[IQ ⟨#[]⟩,J 0,J 0,J 0,J 0,J 0,J 0] 57 (0,0))
 hf:w.heap[f]? = some (.cells #[J t.step,J t.width,J t.height,v3,v4] 26 (0,0))
 hg:w.heap[g]? = some (.cells #[u0,u1,u2,u3] 32 (0,0))
 bl:b<w0.heap.size
 lq:w0.heap.size≤q
 qf:q+2<f
 fg:f<g
 gh:g<hi
 hh:hi≤w.heap.size
 tr:TerP (q+3) hi w t v3 v4
 nr:NwP (q+3) hi w n u0 u1 u2 u3
 td:TerD t
 nd:NetW 40 60 n
def BdP (lo hi:Nat) (w:World) (l:List DBand) (v:Value):Prop:=(∀ x ∈ l,BandW x)∧l.length≤30∧∃ fp,Own w (DBand.sT l) v fp∧In lo hi fp
theorem BdP.frame {lo hi:Nat} {w w':World} {l:List DBand} {v:Value} (h:BdP lo hi w l v) (hf:∀ b,lo≤b→b<hi→w'.heap[b]? = w.heap[b]?):BdP lo hi w' l v:=by
 obtain⟨h1,h2,fp,h3,h4⟩:=h;exact⟨h1,h2,fp,h3.frame (fun b hb=>hf b (h4 b hb).1 (h4 b hb).2),h4⟩
theorem BdP.mono {lo hi lo' hi':Nat} {w:World} {l:List DBand} {v:Value} (h:BdP lo hi w l v) (a:lo'≤lo) (c:hi≤hi'):BdP lo' hi' w l v:=by
 obtain⟨h1,h2,fp,h3,h4⟩:=h;exact⟨h1,h2,fp,h3,h4.mono a c⟩
theorem BdP.form {lo hi:Nat} {w:World} {l:List DBand} {v:Value} (h:BdP lo hi w l v):∃ a c,v=IZ a l.length c:=by
 obtain⟨_,_,fp,h3,h4⟩:=h;obtain⟨a,c,e,_⟩:=DBand.rd (h3.rd h4);exact⟨a,c,e⟩
def DrAll (b k m:Nat) (w:World) (e:Ending) (w':World):Prop:=∃ (t:DTerrain) (v3 v4:Value) (n:DNetwork) (u0 u1 u2 u3:Value) (l:List DBand) (v:Value) (p:DProtected),TerD t∧NetW 40 60 n∧PlaceW p∧e=.returned (.tuple #[.agg #[J t.step,J t.width,J t.height,v3,v4],.agg #[u0,u1,u2,u3],v,.agg #[IQ p.name,J p.at_.place.x,J p.at_.place.y,J p.at_.above,J p.low,J p.high,J p.limit]])∧TerP w.heap.size w'.heap.size w' t v3 v4∧NwP w.heap.size w'.heap.size w' n u0 u1 u2 u3∧BdP w.heap.size w'.heap.size w' l v∧SrcQ b k m w w'
section
variable {b k c q f g hi:Nat} {w0 w w':World} {t:DTerrain} {v3 v4:Value} {n:DNetwork} {u0 u1 u2 u3:Value}
theorem AlS.keep {d:Nat} (h:AlS b k c w0 w q f g hi t v3 v4 n u0 u1 u2 u3) (hs:∃ k',k≤k'∧k'≤k+d∧Src w' b k') (C:Chg [b] w w'):AlS b k d w0 w' q f g hi t v3 v4 n u0 u1 u2 u3:=by
 have:=h.bl;have:=h.lq;have:=h.qf;have:=h.fg;have:=h.gh;have:=h.hh;have:=C.size;have hk:∀ x,x<w.heap.size→q≤x→w'.heap[x]? = w.heap[x]?:=fun x hx hq=>C.block x hx (by simp<;>omega)
 exact⟨hs,h.chg.trans C,(hk q (zcq h.h1) (Nat.le_refl _)).trans h.h1,(hk (q+1) (zcq h.h2) II).trans h.h2,(hk (q+2) (zcq h.h3) II).trans h.h3,(hk f (zcq h.hf) II).trans h.hf,(hk g (zcq h.hg) II).trans h.hg,h.bl,h.lq,h.qf,h.fg,h.gh,II,h.tr.frame (fun x h1 h2=>hk x II II),h.nr.frame (fun x h1 h2=>hk x II II),h.td,h.nd⟩
theorem AlS.below (h:AlS b k c w0 w q f g hi t v3 v4 n u0 u1 u2 u3) (hb:OI w w w'):AlS b k c w0 w' q f g hi t v3 v4 n u0 u1 u2 u3:=by
 obtain⟨k',h1,h2,S⟩:=h.src;exact h.keep ⟨k',h1,h2,S.below S.lt hb⟩ (Chg.of_below hb)
theorem AlS.call {k1 d:Nat} (h:AlS b k c w0 w q f g hi t v3 v4 n u0 u1 u2 u3) (h1:k≤k1) (h2:k1≤k+c) (s:SrcQ b k1 d w w'):AlS b k (c+d) w0 w' q f g hi t v3 v4 n u0 u1 u2 u3:=by
 obtain⟨k2,a1,a2,S,C⟩:=s;exact h.keep ⟨k2,II,II,S⟩ C
theorem AlS.more {d:Nat} (h:AlS b k c w0 w q f g hi t v3 v4 n u0 u1 u2 u3) (hd:c≤d):AlS b k d w0 w q f g hi t v3 v4 n u0 u1 u2 u3:=by
 obtain⟨k',h1,h2,S⟩:=h.src;exact h.keep ⟨k',h1,II,S⟩ (Chg.refl _ _)
theorem AlS.setO (h:AlS b k c w0 w q f g hi t v3 v4 n u0 u1 u2 u3) {y:Nat} (hy:hi≤y) (j:Nat) (u:Value):AlS b k c w0 (w.setCell ⟨y,j,none⟩ u) q f g hi t v3 v4 n u0 u1 u2 u3:=by
 obtain⟨k',h1,h2,S⟩:=h.src;have:=h.bl;have:=h.lq;have:=h.qf;have:=h.fg;have:=h.gh;have hk:∀ x,x<hi→(w.setCell ⟨y,j,none⟩ u).heap[x]? = w.heap[x]?:=fun x hx=>bkO rfl (p:=⟨y,j,none⟩) (by show x≠y;omega) _
 exact⟨⟨k',h1,h2,S.below (B:=b+1) II ((Below.refl (b+1) w).setCell (p:=⟨y,j,none⟩) (by show b+1≤y;omega) _)⟩,⟨h.chg.os,h.chg.tape,h.chg.output,by rw[zac];exact h.chg.size,fun x hx hn=>(hk x II).trans (h.chg.block x hx hn)⟩,(hk q II).trans h.h1,(hk (q+1) II).trans h.h2,(hk (q+2) II).trans h.h3,(hk f II).trans h.hf,(hk g II).trans h.hg,h.bl,h.lq,h.qf,h.fg,h.gh,by rw[zac];exact h.hh,h.tr.frame (fun x h1 h2=>hk x h2),h.nr.frame (fun x h1 h2=>hk x h2),h.td,h.nd⟩
def finW (w:World) (q:Nat) (a c d:List Value):World:=zbi (zbi (zbi w q 0 a) (q+1) 0 c) (q+2) 0 d
theorem AlS.fin (h:AlS b k c w0 w q f g hi t v3 v4 n u0 u1 u2 u3) {l:List DBand} {v:Value} (hl:BdP hi w.heap.size w l v) {p:DProtected} (hp:PlaceW p):DrAll b k c w0 (.returned (.tuple #[.agg #[J t.step,J t.width,J t.height,v3,v4],.agg #[u0,u1,u2,u3],v,.agg #[IQ p.name,J p.at_.place.x,J p.at_.place.y,J p.at_.above,J p.low,J p.high,J p.limit]])) (finW w q [J t.step,J t.width,J t.height,v3,v4] [u0,u1,u2,u3] [IQ p.name,J p.at_.place.x,J p.at_.place.y,J p.at_.above,J p.low,J p.high,J p.limit]):=by
 obtain⟨k',h1,h2,S⟩:=h.src;have:=h.bl;have:=h.lq;have:=h.qf;have:=h.fg;have:=h.gh;have hlow:OI q w (finW w q [J t.step,J t.width,J t.height,v3,v4] [u0,u1,u2,u3] [IQ p.name,J p.at_.place.x,J p.at_.place.y,J p.at_.above,J p.low,J p.high,J p.limit]):=((zbn q _ w 0).trans ((zbn (q+1) _ _ 0).mono (Nat.le_succ q))).trans ((zbn (q+2) _ _ 0).mono II);have hk:∀ x,q+2<x→(finW w q [J t.step,J t.width,J t.height,v3,v4] [u0,u1,u2,u3] [IQ p.name,J p.at_.place.x,J p.at_.place.y,J p.at_.above,J p.low,J p.high,J p.limit]).heap[x]? = w.heap[x]?:=fun x hx=>((za7 (q+2) _ _ 0 x II).trans (za7 (q+1) _ _ 0 x II)).trans (za7 q _ w 0 x II)
 have hsz:(finW w q [J t.step,J t.width,J t.height,v3,v4] [u0,u1,u2,u3] [IQ p.name,J p.at_.place.x,J p.at_.place.y,J p.at_.above,J p.low,J p.high,J p.limit]).heap.size=w.heap.size:=by unfold finW;rw[zbl,zbl,zbl]
 have hhh:=h.hh;refine⟨t,v3,v4,n,u0,u1,u2,u3,l,v,p,h.td,h.nd,hp,rfl,(h.tr.frame (fun x h1 h2=>hk x II)).mono II (by rw[hsz];omega),(h.nr.frame (fun x h1 h2=>hk x II)).mono II (by rw[hsz];omega),(hl.frame (fun x h1 h2=>hk x II)).mono II (by rw[hsz];exact Nat.le_refl _),SrcQ.low S II h1 h2 h.chg h.lq hlow⟩
end
theorem own_struct {w:World} {B E k:Nat} {vs:List Value} (hk:w.heap[B]? = some (.cells vs.toArray E (0,0))) (h0:vs≠[]) (hl:vs.length=k):Own w (.sl k (vs.map .lit)) (IZ (some ⟨B,0,none⟩) 1 1) [B]:=by
 refine⟨zb3.2 ⟨_,1,1,rfl,by simp[hl],Nat.le_refl _,by decide,Or.inr ⟨B,0,[],by simpa using h0,rfl,rfl,?_⟩⟩,by simp,fun y hy i=>?_⟩
 ·exact Reps.lits vs B 0 (fun i hi=>by rw[Nat.zero_add,za3 hk i];simp[List.getElem?_eq_getElem hi])
 ·simp at hy;subst hy;exact bkF hk i
theorem l27DrawAll_any (b k:Nat) (w:World) (h:Src w b k) (hk:k≤1099511100000):Calls Tryz.prog 47 #[.pointer (some ⟨b,0,none⟩)] w (DrAll b k 1800 w):=by
 have yb:=h.lt;have HS:=IJ h;clear h;go_enter Tryz.func47,Tryz.ntmps47;go_wp2_with (fail);obtain⟨W0,hW0,b0,z0,k0,k1,k2⟩:=boxes3 w #[J 0,J 0,J 0,IZ none 0 0,IZ none 0 0] 26 #[IZ none 0 0,IZ none 0 0,IZ none 0 0,IZ none 0 0] 32 #[IQ ⟨#[]⟩,J 0,J 0,J 0,J 0,J 0,J 0] 57;rw[hW0];clear hW0;obtain⟨q,hq⟩:∃ q,q=w.heap.size:=⟨_,rfl⟩
 rw[← hq] at k0 k1 k2 ⊢;have q1:=Nat.le_of_eq hq;have q2:=Nat.le_of_eq hq.symm;have K0:=IJ k0;have K1:=IJ k1;have K2:=IJ k2;have B0:=IJ b0;clear b0 k0 k1 k2 hq
 go_at_call 27
 refine (l20DrawPlan_any b k W0 (HS.out.below HS.out.lt B0.out) II).mono ?_;rintro e w1 ⟨t,v3,v4,n,u0,u1,u2,u3,ht,hn,rfl,htr,hnr,kk,ka,kb,SS,cq⟩;obtain⟨A4,C4,A5,C5,rfl,rfl⟩:=htr.form;obtain⟨A0,C0,A1,C1,A2,C2,A3,C3,rfl,rfl,rfl,rfl⟩:=hnr.form;have HT:=IJ ht;have HN:=IJ hn;have HTR:=IJ htr;have HNR:=IJ hnr;have SK:=IJ SS;have CQ:=IJ cq;have zq:=cq.size;have L0:=IJ ((cq.block q II (by simp<;>omega)).trans K0.out);have L1:=IJ ((cq.block (q+1) II (by simp<;>omega)).trans K1.out);have L2:=IJ ((cq.block (q+2) II (by simp<;>omega)).trans K2.out);clear ht hn htr hnr SS cq HS K0 K1 K2;go_upto_region 2 with (fail);obtain⟨w2,hw2,b2,z2,k3,k4⟩:=zfe w1 #[J t.step,J t.width,J t.height,IZ A4 t.heights.length C4,IZ A5 t.clutter.length C5] 26 #[IZ A0 n.sites.length C0,IZ A1 n.sectors.length C1,IZ A2 n.antennas.length C2,IZ A3 n.radios.length C3] 32;rw[hw2];clear hw2;obtain⟨f,hf⟩:∃ f,f=w1.heap.size:=⟨_,rfl⟩
 obtain⟨g,hg⟩:∃ g,g=w1.heap.size+1:=⟨_,rfl⟩
 rw[← hf] at k3;rw[← hg] at k4;rw[← hg,← hf];obtain⟨hi,hhi⟩:∃ hi,hi=w2.heap.size:=⟨_,rfl⟩
 have AS0:Hid (AlS b k 1250 w w2 q f g hi t (IZ A4 t.heights.length C4) (IZ A5 t.clutter.length C5) n (IZ A0 n.sites.length C0) (IZ A1 n.sectors.length C1) (IZ A2 n.antennas.length C2) (IZ A3 n.radios.length C3)):=⟨⟨kk,ka,kb,SK.out.below SK.out.lt b2⟩,((Chg.of_below B0.out).trans CQ.out).trans (Chg.of_below b2),bkB L0.out b2 II,bkB L1.out b2 II,bkB L2.out b2 II,k3,k4,yb,II,II,II,II,II,(HTR.out.frame (fun x _ hx=>b2.block x hx)).mono II II,(HNR.out.frame (fun x _ hx=>b2.block x hx)).mono II II,HT.out,HN.out⟩
 have gh:g<hi:=II
 clear k3 k4 b2 HTR HNR HT HN SK CQ B0 L0 L1 L2 hf hg ka kb z0 zq z2;go_upto_region 3 with (fail);obtain⟨w3,hw3,b3,z3,k5⟩:=zav w2 #[IQ ⟨#[108,111,119]⟩,J 890000,J 892000,J 200,J 0] 102;rw[hw3];clear hw3;rw[← hhi] at k5 ⊢;have hi1:=Nat.le_of_eq hhi;have hi2:=Nat.le_of_eq hhi.symm;have AS1:=IJ (AS0.out.below b3);have KB:=IJ k5;clear k5 b3 AS0 hhi;go_wp2_with (fail)
 go_at_call 59
 obtain⟨kk,ka,kb,SS⟩:=AS1.out.src;refine (zbb b kk 10 _ SS II II II).mono ?_;rintro e w4 ⟨⟨c,c0,c1,rfl⟩,hq⟩;have AS:Hid (AlS b k 1252 w w4 q f g hi t (IZ A4 t.heights.length C4) (IZ A5 t.clutter.length C5) n (IZ A0 n.sites.length C0) (IZ A1 n.sectors.length C1) (IZ A2 n.antennas.length C2) (IZ A3 n.radios.length C3)):=(AS1.out.call ka kb hq).more II;obtain⟨_,_,_,_,cq⟩:=hq;have zz4:=cq.size;have bh:b<hi:=by have:=AS.out.bl;have:=AS.out.lq;have:=AS.out.qf;have:=AS.out.fg;omega
 have KB4:=IJ ((cq.block hi II (by simp<;>omega)).trans KB.out);clear AS1 KB SS ka kb cq;have bd1:∀ (W:World) (x:DBand),W.heap[hi]? = some (.cells #[IQ x.name,J x.low,J x.high,J x.raster,J x.duplex] 102 (0,0))→BandW x→hi<W.heap.size→BdP hi W.heap.size W [x] (IZ (some ⟨hi,0,none⟩) 1 1):=fun W x hW hx hl =>
  ⟨fun y hy=>by rw[List.mem_singleton.1 hy];exact hx,by simp,[hi],own_struct (k:=5) (vs:=[IQ x.name,J x.low,J x.high,J x.raster,J x.duplex]) hW (by simp) rfl,fun y hy=>by simp at hy;omega⟩
 have BD1:=IJ bd1;clear bd1;have I9:∀ x:Int,0≤x→x≤1000000→I64 x:=fun x h1 h2=>⟨II,II⟩
 have HI9:=IJ I9;clear I9
 go_upto_block 0 with (fail)
 go_cut [8] (fun s8 wx=>∃ (l:List DBand) (a:Option Addr) (cc:Nat),s8=IZ a l.length cc∧BdP hi wx.heap.size wx l (IZ a l.length cc)∧AlS b k 1700 w wx q f g hi t (IZ A4 t.heights.length C4) (IZ A5 t.clutter.length C5) n (IZ A0 n.sites.length C0) (IZ A1 n.sectors.length C1) (IZ A2 n.antennas.length C2) (IZ A3 n.radios.length C3))
 case first =>
  by_cases h0:c=0
  ·subst h0
   go_wp2_with (fail)
   go_at_call 82
   obtain⟨kk,ka,kb,SS⟩:=AS.out.src;refine (l15DrawList_any b kk _ SS II).mono ?_;rintro e w5 ⟨l,a,cc,fp,hbd,hln,rfl,ow,iw,hq⟩;have AT:Hid (AlS b k 1652 w w5 q f g hi t (IZ A4 t.heights.length C4) (IZ A5 t.clutter.length C5) n (IZ A0 n.sites.length C0) (IZ A1 n.sectors.length C1) (IZ A2 n.antennas.length C2) (IZ A3 n.radios.length C3)):=(AS.out.call ka kb hq).more II;have HB:Hid (BdP hi w5.heap.size w5 l (IZ a l.length cc)):=⟨hbd,hln,fp,ow,iw.mono (by have:=AS.out.hh;omega) (Nat.le_refl _)⟩
   clear AS SS ka kb hq ow iw hbd hln;go_wp2;go_meet;exact⟨l,a,cc,rfl,HB.out,AT.out.more II⟩
  by_cases h1:c=1
  ·subst h1
   have q0:=bkC KB4.out 0 rfl;have fz:=bkF KB4.out;have K5:=IJ (bkS KB4.out 0 (IQ ⟨#[111,116,104,101,114]⟩));go_wp2;go_meet;exact⟨[⟨⟨#[111,116,104,101,114]⟩,890000,892000,200,0⟩],_,1,rfl,BD1.out _ ⟨⟨#[111,116,104,101,114]⟩,890000,892000,200,0⟩ K5.out ⟨(show (⟨#[111,116,104,101,114]⟩:ByteArray).size≤20 by decide),HI9.out 890000 II II,HI9.out 892000 II II,HI9.out 200 II II,HI9.out 0 II II⟩ (by rw[zac];omega),(AS.out.setO (Nat.le_refl _) 0 _).more II⟩
  by_cases h2:c=2
  ·subst h2
   have q0:=bkC KB4.out 2 rfl;have fz:=bkF KB4.out;have K5:=IJ (bkS KB4.out 2 (J 891000));go_wp2;go_meet;exact⟨[⟨⟨#[108,111,119]⟩,890000,891000,200,0⟩],_,1,rfl,BD1.out _ ⟨⟨#[108,111,119]⟩,890000,891000,200,0⟩ K5.out ⟨(show (⟨#[108,111,119]⟩:ByteArray).size≤20 by decide),HI9.out 890000 II II,HI9.out 891000 II II,HI9.out 200 II II,HI9.out 0 II II⟩ (by rw[zac];omega),(AS.out.setO (Nat.le_refl _) 2 _).more II⟩
  go_wp2;go_meet;exact⟨[⟨⟨#[108,111,119]⟩,890000,892000,200,0⟩],_,1,rfl,BD1.out _ ⟨⟨#[108,111,119]⟩,890000,892000,200,0⟩ KB4.out ⟨(show (⟨#[108,111,119]⟩:ByteArray).size≤20 by decide),HI9.out 890000 II II,HI9.out 892000 II II,HI9.out 200 II II,HI9.out 0 II II⟩ II,AS.out.more II⟩
 case rest =>
  obtain⟨l,a,cc,rfl,hbd,hd⟩:=hcut;clear AS KB4 BD1 HI9;go_upto_region 10 with (fail);have D9:=IJ (hd.below (zbc wc));have BD9:Hid (BdP hi wc.drew.heap.size wc.drew l (IZ a l.length cc)):=hbd.frame (fun _ _ _=>rfl);clear hd hbd;refine za1 7 [(0,true),(1,true),(2,true),(3,true),(4,false),(5,false),(6,false)] (fun W=>W.cell? ⟨f,0,none⟩=some (J t.step)∧W.cell? ⟨f,1,none⟩=some (J t.width)∧W.cell? ⟨f,2,none⟩=some (J t.height)∧W.cell? ⟨f,3,none⟩=some (IZ A4 t.heights.length C4)∧W.cell? ⟨f,4,none⟩=some (IZ A5 t.clutter.length C5)∧W.cell? ⟨g,0,none⟩=some (IZ A0 n.sites.length C0)∧W.cell? ⟨g,1,none⟩=some (IZ A1 n.sectors.length C1)∧W.cell? ⟨g,2,none⟩=some (IZ A2 n.antennas.length C2)∧W.cell? ⟨g,3,none⟩=some (IZ A3 n.radios.length C3)) JI JI ⟨bkC D9.out.hf 0 rfl,bkC D9.out.hf 1 rfl,bkC D9.out.hf 2 rfl,bkC D9.out.hf 3 rfl,bkC D9.out.hf 4 rfl,bkC D9.out.hg 0 rfl,bkC D9.out.hg 1 rfl,bkC D9.out.hg 2 rfl,bkC D9.out.hg 3 rfl⟩ (fun hHeld=>?_);generalize wc.drew=Y0 at *;clear hHeld
  iterate 4 (refine zaj (v:=?_) rfl (fun _ _ _ h=>h) ?_ ?_;rotate_left;focus (intro W hSW;(try dsimp only at hSW);(go_simp<;>with_reducible rfl));(try simp only[Act.put,OO,OJ,OQ]))
  refine za5 rfl (fun K hK=>?_);go_simp;obtain⟨kk,ka,kb,SS⟩:=D9.out.src;refine (l27DrawPlace_any b kk _ SS II).mono ?_;rintro e Y1 ⟨p,hp,rfl,hq⟩;have DD:Hid (AlS b k 1800 w Y1 q f g hi t (IZ A4 t.heights.length C4) (IZ A5 t.clutter.length C5) n (IZ A0 n.sites.length C0) (IZ A1 n.sectors.length C1) (IZ A2 n.antennas.length C2) (IZ A3 n.radios.length C3)):=(D9.out.call ka kb hq).more II;have hqf:=DD.out.qf;have hfg:=DD.out.fg;have hbq:b<q:=by have:=DD.out.bl;have:=DD.out.lq;omega
  obtain⟨_,_,_,_,cq⟩:=hq;have BD10:Hid (BdP hi Y1.heap.size Y1 l (IZ a l.length cc)):=(BD9.out.frame (fun x h1 h2=>cq.block x h2 (by simp<;>omega))).mono (Nat.le_refl _) cq.size;refine hK.out _ _ ⟨bkC DD.out.hf 0 rfl,bkC DD.out.hf 1 rfl,bkC DD.out.hf 2 rfl,bkC DD.out.hf 3 rfl,bkC DD.out.hf 4 rfl,bkC DD.out.hg 0 rfl,bkC DD.out.hg 1 rfl,bkC DD.out.hg 2 rfl,bkC DD.out.hg 3 rfl⟩ ?_;clear hK K D9 BD9 SS ka kb cq
  (try simp only[Act.put,OO,OJ,OQ])
  have HF:=IJ (DD.out.fin BD10.out hp);obtain⟨s0,s1,s2,s3,s4,gz⟩:=bz5 DD.out.h1;refine za5 rfl (fun K hK=>?_);go_simp;have hfar:=za7 q [J t.step,J t.width,J t.height,IZ A4 t.heights.length C4,IZ A5 t.clutter.length C5] Y1 0;have hfq:=bkS (bkS (bkS (bkS (bkS DD.out.h1 0 (J t.step)) 1 (J t.width)) 2 (J t.height)) 3 (IZ A4 t.heights.length C4)) 4 (IZ A5 t.clutter.length C5);obtain⟨Z1,hZ1⟩:∃ Z1,zbi Y1 q 0 [J t.step,J t.width,J t.height,IZ A4 t.heights.length C4,IZ A5 t.clutter.length C5]=Z1:=⟨_,rfl⟩
  rw[hZ1] at hfar;have KF:=IJ ((hfar f II).trans DD.out.hf);have KG:=IJ ((hfar g II).trans DD.out.hg);have K2:=IJ ((hfar (q+1) II).trans DD.out.h2);have K3:=IJ ((hfar (q+2) II).trans DD.out.h3);simp only[zbi] at hZ1;have K1:Hid (Z1.heap[q]? = some (.cells #[J t.step,J t.width,J t.height,IZ A4 t.heights.length C4,IZ A5 t.clutter.length C5] 26 (0,0))):=by
   show _=_
   rw[← hZ1]
   simpa using hfq
  rw[hZ1];refine hK.out _ _ ⟨bkC KF.out 0 rfl,bkC KF.out 1 rfl,bkC KF.out 2 rfl,bkC KF.out 3 rfl,bkC KF.out 4 rfl,bkC KG.out 0 rfl,bkC KG.out 1 rfl,bkC KG.out 2 rfl,bkC KG.out 3 rfl⟩ ?_;clear hK K s0 s1 s2 s3 s4 gz hfq hfar
  (try simp only[Act.put,OO,OJ,OQ])
  obtain⟨s0,s1,s2,s3,gz⟩:=bz4 K2.out;refine za5 rfl (fun K hK=>?_);go_simp;have hfar:=za7 (q+1) [IZ A0 n.sites.length C0,IZ A1 n.sectors.length C1,IZ A2 n.antennas.length C2,IZ A3 n.radios.length C3] Z1 0;have hfq:=bkS (bkS (bkS (bkS K2.out 0 (IZ A0 n.sites.length C0)) 1 (IZ A1 n.sectors.length C1)) 2 (IZ A2 n.antennas.length C2)) 3 (IZ A3 n.radios.length C3);obtain⟨Z2,hZ2⟩:∃ Z2,zbi Z1 (q+1) 0 [IZ A0 n.sites.length C0,IZ A1 n.sectors.length C1,IZ A2 n.antennas.length C2,IZ A3 n.radios.length C3]=Z2:=⟨_,rfl⟩
  rw[hZ2] at hfar;have KF2:=IJ ((hfar f II).trans KF.out);have KG2:=IJ ((hfar g II).trans KG.out);have M1:=IJ ((hfar q II).trans K1.out);have M3:=IJ ((hfar (q+2) II).trans K3.out);simp only[zbi] at hZ2;have M2:Hid (Z2.heap[q+1]? = some (.cells #[IZ A0 n.sites.length C0,IZ A1 n.sectors.length C1,IZ A2 n.antennas.length C2,IZ A3 n.radios.length C3] 32 (0,0))):=by
   show _=_
   rw[← hZ2]
   simpa using hfq
  rw[hZ2];refine hK.out _ _ ⟨bkC KF2.out 0 rfl,bkC KF2.out 1 rfl,bkC KF2.out 2 rfl,bkC KF2.out 3 rfl,bkC KF2.out 4 rfl,bkC KG2.out 0 rfl,bkC KG2.out 1 rfl,bkC KG2.out 2 rfl,bkC KG2.out 3 rfl⟩ ?_;clear hK K s0 s1 s2 s3 gz hfq hfar KF KG K1 K2 K3 KF2 KG2
  (try simp only[Act.put,OO,OJ,OQ])
  have HF2:Hid (DrAll b k 1800 w (.returned (.tuple #[.agg #[J t.step,J t.width,J t.height,IZ A4 t.heights.length C4,IZ A5 t.clutter.length C5],.agg #[IZ A0 n.sites.length C0,IZ A1 n.sectors.length C1,IZ A2 n.antennas.length C2,IZ A3 n.radios.length C3],IZ a l.length cc,.agg #[IQ p.name,J p.at_.place.x,J p.at_.place.y,J p.at_.above,J p.low,J p.high,J p.limit]])) (zbi Z2 (q+2) 0 [IQ p.name,J p.at_.place.x,J p.at_.place.y,J p.at_.above,J p.low,J p.high,J p.limit])):=by
   have h:=HF.out;unfold finW at h;rw[show zbi Y1 q 0 [J t.step,J t.width,J t.height,IZ A4 t.heights.length C4,IZ A5 t.clutter.length C5]=Z1 from hZ1,show zbi Z1 (q+1) 0 [IZ A0 n.sites.length C0,IZ A1 n.sectors.length C1,IZ A2 n.antennas.length C2,IZ A3 n.radios.length C3]=Z2 from hZ2] at h;exact h
  clear HF hZ1 hZ2 DD BD10;refine zb1 ?_;simp only[List.drop_succ_cons,List.drop_zero];obtain⟨s0,s1,s2,s3,s4,s5,s6,gz⟩:=bz7 M3.out;obtain⟨m0,m1,m2,m3,m4,_⟩:=bz5 M1.out;obtain⟨n0,n1,n2,n3,_⟩:=bz4 M2.out;have hne1:q+2≠q:=II
  have hne2:q+2≠q+1:=II
  have hne3:q≠q+2:=II
  have hne4:q+1≠q+2:=II
  go_wp2;exact bodyPost_ret (v:=.tuple #[.agg #[J t.step,J t.width,J t.height,IZ A4 t.heights.length C4,IZ A5 t.clutter.length C5],.agg #[IZ A0 n.sites.length C0,IZ A1 n.sectors.length C1,IZ A2 n.antennas.length C2,IZ A3 n.radios.length C3],IZ a l.length cc,.agg #[IQ p.name,J p.at_.place.x,J p.at_.place.y,J p.at_.above,J p.low,J p.high,J p.limit]]) (by simp[results,Tryz.results47,go_sem, *]) rfl HF2.out
end Go.Proofs.YtpakghepnahooaaGreatDoor
namespace Go.Proofs.YtpakghepnahooaaGreatDoor
open Go.RowKit
set_option maxHeartbeats 16000000
set_option maxRecDepth 100000
theorem BandW.ok {x:DBand} (h:BandW x):x.ok∧sizL x.tr≤100:=by
 obtain⟨h1,h2,h3,h4,h5⟩:=h;exact⟨⟨by unfold maxLen;omega,h2,h3,h4,h5⟩,by simp[DBand.tr,sizL,siz,strT,intT];omega⟩
theorem bandsW_small {l:List DBand} (h:∀ x ∈ l,BandW x) (hl:l.length≤30):siz (DBand.sT l)≤1048576∧∀ y ∈ l,y.ok:=by
 refine⟨?_,fun y hy=>(h y hy).ok.1⟩;rw[DBand.siz_s];have:=zd0 DBand.tr 100 l (fun x hx=>(h x hx).ok.2);omega
theorem PlaceW.ok {x:DProtected} (h:PlaceW x):x.ok∧sizL x.tr≤1048576:=by
 obtain⟨h1,⟨h2,h3,h4⟩,h5,h6,h7⟩:=h;exact⟨⟨by unfold maxLen;omega,⟨⟨h2,h3⟩,h4⟩,h5,h6,h7⟩,by simp[DProtected.tr,DEnd.tr,DPoint.tr,sizL,siz,strT,intT];omega⟩
def DrExc (w:World) (e:Ending) (w':World):Prop:=∃ (t:DTerrain) (v3 v4:Value) (n:DNetwork) (u0 u1 u2 u3:Value) (l:List DBand) (v:Value) (p:DProtected),TerD t∧NetW 40 60 n∧PlaceW p∧e=.returned (.tuple #[.agg #[J t.step,J t.width,J t.height,v3,v4],.agg #[u0,u1,u2,u3],v,.agg #[IQ p.name,J p.at_.place.x,J p.at_.place.y,J p.at_.above,J p.low,J p.high,J p.limit]])∧TerP w.heap.size w'.heap.size w' t v3 v4∧NwP w.heap.size w'.heap.size w' n u0 u1 u2 u3∧BdP w.heap.size w'.heap.size w' l v∧OI w w w'
theorem zff (code:List UInt8) (v0:Value) (w:World) (h:Rd w w (bsT code) v0):Calls Tryz.prog 14 #[v0] w (DrExc w):=by
 have H0:=IJ h;obtain⟨x0,y0,rfl,_,_,_⟩:=h.bs;clear h;go_enter Tryz.func14,Tryz.ntmps14;go_wp2_with (fail);obtain⟨W0,hW0,b0,z0,k0,k1,k2⟩:=boxes3 w #[J 0,J 0,J 0,IZ none 0 0,IZ none 0 0] 26 #[IZ none 0 0,IZ none 0 0,IZ none 0 0,IZ none 0 0] 32 #[IQ ⟨#[]⟩,J 0,J 0,J 0,J 0,J 0,J 0] 57;rw[hW0];clear hW0;obtain⟨q,hq⟩:∃ q,q=w.heap.size:=⟨_,rfl⟩
 rw[← hq] at k0 k1 k2 ⊢;have q1:=Nat.le_of_eq hq;have q2:=Nat.le_of_eq hq.symm;have K0:=IJ k0;have K1:=IJ k1;have K2:=IJ k2;have B0:=IJ b0;clear b0 k0 k1 k2 hq
 go_at_call 26
 refine (l00From_any code _ W0 ((H0.out.below B0.out).mono II)).mono ?_;rintro e w1 ⟨rfl,hs,hb,hz⟩;have HS:=IJ hs;have HB:=IJ hb;have zz1:=hb.size;clear hs hb H0;obtain⟨b,hbb⟩:∃ b,b=W0.heap.size:=⟨_,rfl⟩
 rw[← hbb] at HS ⊢;have b1:=Nat.le_of_eq hbb;have b2:=Nat.le_of_eq hbb.symm;clear hbb;go_wp2_with (fail)
 go_at_call 47
 refine (l27DrawAll_any b 0 w1 HS.out II).mono ?_;rintro e w2 ⟨t,v3,v4,n,u0,u1,u2,u3,l,v,p,ht,hn,hp,rfl,htr,hnr,hbd,kk,ka,kb,SS,cq⟩;obtain⟨A4,C4,A5,C5,rfl,rfl⟩:=htr.form;obtain⟨A0,C0,A1,C1,A2,C2,A3,C3,rfl,rfl,rfl,rfl⟩:=hnr.form;obtain⟨a,cc,rfl⟩:=hbd.form;have HT:=IJ ht;have HN:=IJ hn;have HPW:=IJ hp;have HTR:=IJ htr;have HNR:=IJ hnr;have HBD:=IJ hbd;have zz2:=cq.size;have hk:∀ x,x<b→w2.heap[x]? = W0.heap[x]?:=fun x hx=>(cq.block x II (by simp<;>omega)).trans (HB.out.block x II)
 have L0:=IJ ((hk q II).trans K0.out);have L1:=IJ ((hk (q+1) II).trans K1.out);have L2:=IJ ((hk (q+2) II).trans K2.out);have BW:Hid (OI q w w2):=⟨cq.os.trans (HB.out.os.trans B0.out.os),cq.tape.trans (HB.out.tape.trans B0.out.tape),cq.output.trans (HB.out.output.trans B0.out.output),by have:=B0.out.size;omega,fun x hx=>(hk x II).trans (B0.out.block x II)⟩
 clear ht hn hp htr hnr hbd SS cq hk HB HS B0 K0 K1 K2 kk ka kb;obtain⟨c0,c1,c2,c3,c4,g0⟩:=bz5 L0.out;obtain⟨d0,d1,d2,d3,g1⟩:=bz4 L1.out;obtain⟨e0,e1,e2,e3,e4,e5,e6,g2⟩:=bz7 L2.out;have hne1:q+1≠q:=II
 have hne2:q+2≠q+1:=II
 have hne3:q+2≠q:=II
 have hne4:q≠q+1:=II
 have hne5:q+1≠q+2:=II
 have hne6:q≠q+2:=II
 go_wp2;clear c0 c1 c2 c3 c4 g0 d0 d1 d2 d3 g1 e0 e1 e2 e3 e4 e5 e6 g2 hne1 hne2 hne3 hne4 hne5 hne6;have hlow:OI q w2 (finW w2 q [J t.step,J t.width,J t.height,IZ A4 t.heights.length C4,IZ A5 t.clutter.length C5] [IZ A0 n.sites.length C0,IZ A1 n.sectors.length C1,IZ A2 n.antennas.length C2,IZ A3 n.radios.length C3] [IQ p.name,J p.at_.place.x,J p.at_.place.y,J p.at_.above,J p.low,J p.high,J p.limit]):=((zbn q _ w2 0).trans ((zbn (q+1) _ _ 0).mono (Nat.le_succ q))).trans ((zbn (q+2) _ _ 0).mono II);have hkk:∀ x,q+2<x→(finW w2 q [J t.step,J t.width,J t.height,IZ A4 t.heights.length C4,IZ A5 t.clutter.length C5] [IZ A0 n.sites.length C0,IZ A1 n.sectors.length C1,IZ A2 n.antennas.length C2,IZ A3 n.radios.length C3] [IQ p.name,J p.at_.place.x,J p.at_.place.y,J p.at_.above,J p.low,J p.high,J p.limit]).heap[x]? = w2.heap[x]?:=fun x hx=>((za7 (q+2) _ _ 0 x II).trans (za7 (q+1) _ _ 0 x II)).trans (za7 q _ w2 0 x II)
 have hsz:(finW w2 q [J t.step,J t.width,J t.height,IZ A4 t.heights.length C4,IZ A5 t.clutter.length C5] [IZ A0 n.sites.length C0,IZ A1 n.sectors.length C1,IZ A2 n.antennas.length C2,IZ A3 n.radios.length C3] [IQ p.name,J p.at_.place.x,J p.at_.place.y,J p.at_.above,J p.low,J p.high,J p.limit]).heap.size=w2.heap.size:=by unfold finW;rw[zbl,zbl,zbl]
 have m1:(finW w2 q [J t.step,J t.width,J t.height,IZ A4 t.heights.length C4,IZ A5 t.clutter.length C5] [IZ A0 n.sites.length C0,IZ A1 n.sectors.length C1,IZ A2 n.antennas.length C2,IZ A3 n.radios.length C3] [IQ p.name,J p.at_.place.x,J p.at_.place.y,J p.at_.above,J p.low,J p.high,J p.limit]).heap[q]? = some (.cells #[J t.step,J t.width,J t.height,IZ A4 t.heights.length C4,IZ A5 t.clutter.length C5] 26 (0,0)):=((za7 (q+2) _ _ 0 q II).trans (za7 (q+1) _ _ 0 q II)).trans (by
  have h:=bkS (bkS (bkS (bkS (bkS L0.out 0 (J t.step)) 1 (J t.width)) 2 (J t.height)) 3 (IZ A4 t.heights.length C4)) 4 (IZ A5 t.clutter.length C5)
  simpa [zbi] using h)
 have m2:(finW w2 q [J t.step,J t.width,J t.height,IZ A4 t.heights.length C4,IZ A5 t.clutter.length C5] [IZ A0 n.sites.length C0,IZ A1 n.sectors.length C1,IZ A2 n.antennas.length C2,IZ A3 n.radios.length C3] [IQ p.name,J p.at_.place.x,J p.at_.place.y,J p.at_.above,J p.low,J p.high,J p.limit]).heap[q+1]? = some (.cells #[IZ A0 n.sites.length C0,IZ A1 n.sectors.length C1,IZ A2 n.antennas.length C2,IZ A3 n.radios.length C3] 32 (0,0)):=(za7 (q+2) _ _ 0 (q+1) II).trans (by
  have h:=bkS (bkS (bkS (bkS ((za7 q [J t.step,J t.width,J t.height,IZ A4 t.heights.length C4,IZ A5 t.clutter.length C5] w2 0 (q+1) II).trans L1.out) 0 (IZ A0 n.sites.length C0)) 1 (IZ A1 n.sectors.length C1)) 2 (IZ A2 n.antennas.length C2)) 3 (IZ A3 n.radios.length C3)
  simpa [zbi] using h)
 have m3:(finW w2 q [J t.step,J t.width,J t.height,IZ A4 t.heights.length C4,IZ A5 t.clutter.length C5] [IZ A0 n.sites.length C0,IZ A1 n.sectors.length C1,IZ A2 n.antennas.length C2,IZ A3 n.radios.length C3] [IQ p.name,J p.at_.place.x,J p.at_.place.y,J p.at_.above,J p.low,J p.high,J p.limit]).heap[q+2]? = some (.cells #[IQ p.name,J p.at_.place.x,J p.at_.place.y,J p.at_.above,J p.low,J p.high,J p.limit] 57 (0,0)):=by
  have h:=bkS (bkS (bkS (bkS (bkS (bkS (bkS (((za7 (q+1) [IZ A0 n.sites.length C0,IZ A1 n.sectors.length C1,IZ A2 n.antennas.length C2,IZ A3 n.radios.length C3] _ 0 (q+2) II).trans (za7 q [J t.step,J t.width,J t.height,IZ A4 t.heights.length C4,IZ A5 t.clutter.length C5] w2 0 (q+2) II)).trans L2.out) 0 (IQ p.name)) 1 (J p.at_.place.x)) 2 (J p.at_.place.y)) 3 (J p.at_.above)) 4 (J p.low)) 5 (J p.high)) 6 (J p.limit)
  simpa [finW,zbi] using h
 have W0_:=IJ (show OI w w (finW w2 q [J t.step,J t.width,J t.height,IZ A4 t.heights.length C4,IZ A5 t.clutter.length C5] [IZ A0 n.sites.length C0,IZ A1 n.sectors.length C1,IZ A2 n.antennas.length C2,IZ A3 n.radios.length C3] [IQ p.name,J p.at_.place.x,J p.at_.place.y,J p.at_.above,J p.low,J p.high,J p.limit]) from (BW.out.trans hlow).mono q2);have R1:=IJ ((HTR.out.frame (fun x h1 h2=>hkk x II)).mono (lo':=w.heap.size) II (Nat.le_of_eq hsz.symm));have R2:=IJ ((HNR.out.frame (fun x h1 h2=>hkk x II)).mono (lo':=w.heap.size) II (Nat.le_of_eq hsz.symm));have R3:=IJ ((HBD.out.frame (fun x h1 h2=>hkk x II)).mono (lo':=w.heap.size) II (Nat.le_of_eq hsz.symm));obtain⟨Z,hZ⟩:∃ Z,finW w2 q [J t.step,J t.width,J t.height,IZ A4 t.heights.length C4,IZ A5 t.clutter.length C5] [IZ A0 n.sites.length C0,IZ A1 n.sectors.length C1,IZ A2 n.antennas.length C2,IZ A3 n.radios.length C3] [IQ p.name,J p.at_.place.x,J p.at_.place.y,J p.at_.above,J p.low,J p.high,J p.limit]=Z:=⟨_,rfl⟩
 rw[hZ] at m1 m2 m3 W0_ R1 R2 R3;simp only[finW,zbi] at hZ;rw[hZ];clear hZ hlow hkk hsz HTR HNR HBD L0 L1 L2 BW;obtain⟨c0,c1,c2,c3,c4,_⟩:=bz5 m1;obtain⟨d0,d1,d2,d3,_⟩:=bz4 m2;obtain⟨e0,e1,e2,e3,e4,e5,e6,_⟩:=bz7 m3;exact bodyPost_ret (v:=.tuple #[.agg #[J t.step,J t.width,J t.height,IZ A4 t.heights.length C4,IZ A5 t.clutter.length C5],.agg #[IZ A0 n.sites.length C0,IZ A1 n.sectors.length C1,IZ A2 n.antennas.length C2,IZ A3 n.radios.length C3],IZ a l.length cc,.agg #[IQ p.name,J p.at_.place.x,J p.at_.place.y,J p.at_.above,J p.low,J p.high,J p.limit]]) (by simp[results,Tryz.results14,go_sem, *]) rfl ⟨t,_,_,n,_,_,_,_,l,_,p,HT.out,HN.out,HPW.out,rfl,R1.out,R2.out,R3.out,W0_.out⟩
theorem b10Words_same (l:List ByteArray) (va vb:Value) (w:World) (ha:Rd w w (strsT l) va) (hb:Rd w w (strsT l) vb) (hl:l.length≤1048576):Calls Tryz.prog 17 #[va,vb] w fun e w'=>e=.returned (.bool true)∧OI w w w':=by
 obtain⟨a,c,rfl,_,_,ca⟩:=ha.strs;obtain⟨a',c',rfl,_,_,cb⟩:=hb.strs;have CA:=IJ ca;have CB:=IJ cb;have hli:(l.length:Int)≤1048576:=II
 clear ha hb ca cb;go_enter Tryz.func17,Tryz.ntmps17;go_wp2;go_loopw [5] (fun i wr=>∃ k:Nat,k≤l.length∧i=J (k:Int)∧OI w w wr) (fun i wr=>l.length-(intOf i).toNat)
 case atStart=>exact⟨0,Nat.zero_le _,rfl,Below.refl _ _⟩
 case round =>
  obtain⟨k,hk,rfl,hw⟩:=hrel;have HW:=IJ hw;clear hw
  by_cases hlt:k<l.length
  ·obtain⟨b1,o1,rfl,l1,h1⟩:=CA.out II
   obtain⟨b2,o2,rfl,l2,h2⟩:=CB.out II;have s1:=(bat HW.out b1 _ l1).trans (h1 k hlt);have s2:=(bat HW.out b2 _ l2).trans (h2 k hlt);have hki:(k:Int)<(l.length:Int):=II
   have hk0:(0:Int)≤(k:Int):=II
   clear h1 h2;generalize l[k]=y at *;have he:eqS y y=true:=eqS_iff.2 rfl;go_upto_region 6 with (fail);refine za1 9 [(0,true),(1,true),(2,true),(3,true),(4,true),(5,true),(6,true),(7,true),(8,true)] (fun W=>W.cell? ⟨b1,o1+k,none⟩=some (IQ y)∧W.cell? ⟨b2,o2+k,none⟩=some (IQ y)) JI JI ⟨s1,s2⟩ (fun hHeld=>?_);have HD:=IJ HW.out.drew;clear s1 s2 HW;generalize wr.drew=Y0 at *;clear hHeld
   iterate 9 (refine zaj (v:=?_) rfl (fun _ _ _ h=>h) ?_ ?_;rotate_left;focus (intro W hSW;(try dsimp only at hSW);(go_simp<;>with_reducible rfl));(try simp only[Act.put,OO,OJ,OQ]))
   refine zb1 ?_;simp only[List.drop_succ_cons,List.drop_zero];simp only[Act.put,OO,OJ,OQ];go_wp2;go_roundw
   case rel=>exact⟨k+1,II,by go_num,HD.out⟩
   case measure=>simp only[intOf];omega
  ·have hki:¬ (k:Int)<(l.length:Int):=II
   go_wp2;go_ret;exact⟨rfl,HW.out⟩
end Go.Proofs.YtpakghepnahooaaGreatDoor
namespace Go.Proofs.YtpakghepnahooaaGreatDoor.fnLimits
open Go.RowKit
set_option maxHeartbeats 16000000
set_option maxRecDepth 100000
theorem chan_not {t:DTerrain} {n:DNetwork} {bs:List DBand} {p:DProtected} {x:DSector} (h:x.channel<0):levX t n bs p x = -300000:=by
 refine levX_not ?_
 cases hu:useX bs x p with
 | false=>rfl
 | true =>
  have:=(hasX_true (useX_has hu)).2.1;omega
theorem walk (code:List UInt8) (v0:Value) (w:World) (LL:TabW w) (h0:Rd w w (bsT code) v0) :
  Calls Tryz.prog 4 #[v0] w fun e w'=>e=.returned (.bool true)∧OI w w w':=by
 have HLA:=IJ (b10Long_any code v0 w h0);have HP:=IJ (zff code v0 w h0);have HL:=IJ LL;obtain⟨x0,y0,rfl,_,_,_⟩:=h0.bs;clear h0 LL;obtain⟨i0,hi0,hz0,hz1,hz2⟩:=info_parts infoStr
 by_cases hlong:decide ((1048576:Int)<(code.length:Int))=true
 ·rw[hlong] at HLA
  clear hlong;go_enter Tryz.func4,Tryz.ntmps4;go_wp2_with (fail)
  go_at_call 6
  refine HLA.out.mono ?_;rintro e w' ⟨rfl,rfl⟩;go_wp2;go_ret;exact⟨rfl,Below.refl _ _⟩
 rw[Bool.not_eq_true] at hlong;rw[hlong] at HLA;clear hlong;go_enter Tryz.func4,Tryz.ntmps4;go_wp2_with (fail)
 go_at_call 6
 refine HLA.out.mono ?_;rintro e _ ⟨rfl,rfl⟩;clear HLA;go_wp2_with (fail)
 go_at_call 14
 refine HP.out.mono ?_;rintro e w1 ⟨t,v3,v4,n,u0,u1,u2,u3,bs,vb,p,ht,hn,hp,rfl,htr,hnr,hbd,hb1⟩;obtain⟨A4,C4,A5,C5,rfl,rfl⟩:=htr.form;obtain⟨A0,C0,A1,C1,A2,C2,A3,C3,rfl,rfl,rfl,rfl⟩:=hnr.form;obtain⟨A6,C6,rfl⟩:=hbd.form;obtain⟨hto,hts⟩:=ht.small;obtain⟨hno,hns⟩:=hn.small II II;obtain⟨hbs,hbo⟩:=bandsW_small hbd.1 hbd.2.1;obtain⟨hpo,hps⟩:=hp.ok;obtain⟨_,_,fpb,hbw,hbi⟩:=hbd;have hnl:=hn.l1;have RT:=IJ htr.rd;have RN:=IJ hnr.rd;have RB:=IJ (hbw.rd hbi);have B1:=IJ hb1;clear HP htr hnr hbw hbi hb1 ht hp hn;go_upto_region 4 with (fail);obtain⟨W0,hW0,b0_,z0,k0,k1,k2⟩:=boxes3 w1 #[J t.step,J t.width,J t.height,IZ A4 t.heights.length C4,IZ A5 t.clutter.length C5] 26 #[IZ A0 n.sites.length C0,IZ A1 n.sectors.length C1,IZ A2 n.antennas.length C2,IZ A3 n.radios.length C3] 32 #[IQ p.name,J p.at_.place.x,J p.at_.place.y,J p.at_.above,J p.low,J p.high,J p.limit] 57;rw[hW0];clear hW0;have HD:=IJ (fun (W:World) (hW:OI W0 W0 W)=>bx5 k0 hW <| bx4 k1 hW <| by7 k2 hW);have BW0:=btr B1 b0_;have B01:=IJ b0_;have HB:Hid (OI W0 W0 W0):=Below.refl _ _;have HL0:=IJ (HL.out.mono BW0.out);have CE:Hid (∀ W:World,OI W0 W0 W→Calls Tryz.prog 15 #[.agg #[J t.step,J t.width,J t.height,IZ A4 t.heights.length C4,IZ A5 t.clutter.length C5],.agg #[IZ A0 n.sites.length C0,IZ A1 n.sectors.length C1,IZ A2 n.antennas.length C2,IZ A3 n.radios.length C3],IZ A6 bs.length C6,.agg #[IQ p.name,J p.at_.place.x,J p.at_.place.y,J p.at_.above,J p.low,J p.high,J p.limit]] W (fun e w'=>∃ a0_0 c0_0 fp0,e=.returned (.tuple #[IZ a0_0 (excR t n bs p).1.length c0_0,J (excR t n bs p).2])∧OI W W w'∧Own w' (strsT (excR t n bs p).1) (IZ a0_0 (excR t n bs p).1.length c0_0) fp0∧In W w'.heap.size fp0)):=fun W hW =>
  have h1:=b0_.trans (hW.mono b0_.size);have hz:=h1.size
  iExceedingSectors_std t n bs p _ _ _ _ _ _ _ W (HL0.out.mono hW) ((RT.out.1.below h1).mono hz) ((RT.out.2.below h1).mono hz) ((RN.out.1.below h1).mono hz) ((RN.out.2.1.below h1).mono hz) ((RN.out.2.2.1.below h1).mono hz) ((RN.out.2.2.2.below h1).mono hz) ((RB.out.below h1).mono hz) hts hto hns hno hbs hbo hps hpo
 have CR:Hid (∀ W:World,OI W0 W0 W→Calls Tryz.prog 16 #[.agg #[J t.step,J t.width,J t.height,IZ A4 t.heights.length C4,IZ A5 t.clutter.length C5],.agg #[IZ A0 n.sites.length C0,IZ A1 n.sectors.length C1,IZ A2 n.antennas.length C2,IZ A3 n.radios.length C3],IZ A6 bs.length C6,.agg #[IQ p.name,J p.at_.place.x,J p.at_.place.y,J p.at_.above,J p.low,J p.high,J p.limit]] W (fun e w'=>∃ a0_0 c0_0 fp0,e=.returned (.tuple #[IZ a0_0 (zbj t n bs p).1.length c0_0,J (zbj t n bs p).2])∧OI W W w'∧Own w' (zat (zbj t n bs p).1) (IZ a0_0 (zbj t n bs p).1.length c0_0) fp0∧In W w'.heap.size fp0)):=fun W hW =>
  have h1:=b0_.trans (hW.mono b0_.size);have hz:=h1.size
  ze4 t n bs p _ _ _ _ _ _ _ W (HL0.out.mono hW) ((RT.out.1.below h1).mono hz) ((RT.out.2.below h1).mono hz) ((RN.out.1.below h1).mono hz) ((RN.out.2.1.below h1).mono hz) ((RN.out.2.2.1.below h1).mono hz) ((RN.out.2.2.2.below h1).mono hz) ((RB.out.below h1).mono hz) hts hto hns hno hbs hbo hps hpo
 obtain⟨_,_,_,_,_,hcs⟩:=DSector.rd RN.out.2.1;have HSC:=IJ hcs;clear hcs k0 k1 k2 b0_ HL HL0 hto hts hno hns hbs hbo hpo hps RT RB B1;have y0:w1.heap.size+1+1<W0.heap.size:=II
 obtain⟨t0,t1,t2,t3,t4,t5,t6,t7,t8,t9,t10,t11,t12,t13,t14,t15⟩:=HD.out _ HB.out;go_wp2_with (fail)
 go_at_call 15
 refine (CE.out _ HB.out).mono ?_;rintro e w2 ⟨a7,c7,fp7,rfl,hb_,ho_,hi_⟩;have RE:=IJ (ho_.rd hi_);replace HB:=btr HB hb_;have z2:=hb_.size;clear hb_ ho_ hi_ CE t0 t1 t2 t3 t4 t5 t6 t7 t8 t9 t10 t11 t12 t13 t14 t15;obtain⟨t0,t1,t2,t3,t4,t5,t6,t7,t8,t9,t10,t11,t12,t13,t14,t15⟩:=HD.out _ HB.out;go_wp2_with (fail)
 go_at_call 16
 refine (CR.out _ HB.out).mono ?_;rintro e w3 ⟨a8,c8,fp8,rfl,hb_,ho_,hi_⟩;have RV:=IJ (ho_.rd hi_);have RE3:=IJ ((RE.out.below hb_).mono hb_.size);replace HB:=btr HB hb_;have z3:=hb_.size;clear hb_ ho_ hi_ CR RE t0 t1 t2 t3 t4 t5 t6 t7 t8 t9 t10 t11 t12 t13 t14 t15;have BW3:=IJ (BW0.out.trans (HB.out.mono BW0.out.size))
 by_cases hc:(zbj t n bs p).2=0
 case neg =>
  have e1:excR t n bs p=([],(zbj t n bs p).2):=if_neg hc;have e2:=levPl_bad hc;rw[e1] at RE3;simp only[e1];have e3:(zbj t n bs p).1 = []:=by rw[e2]
  simp only[e3];have d1:((zbj t n bs p).2 == 0)=false:=beq_eq_false_iff_ne.2 hc;clear RE3 RV HSC e1 e2 e3;generalize (zbj t n bs p).2=RC at *;go_wp2;go_ret;exact⟨rfl,BW3.out⟩
 have e1:excR t n bs p=(col DSector.name (fun x:DSector=>decide (p.limit<levX t n bs p x)) n.sectors,0):=if_pos hc;have e2:=levPl_ok hc;rw[e1] at RE3;rw[e2] at RV;simp only[e1,e2];simp only[zei];have HLV:Hid (∀ (k:Nat) (hk:k<n.sectors.length),(rowX t n bs p)[k]'(by rw[zei];exact hk)=levX t n bs p (zad n.sectors k)):=fun k hk=>by simp only[rowX,List.getElem_map,za6 hk]
 have HRN:Hid ((rowX t n bs p).length=n.sectors.length):=zei t n bs p;have hvi:=RV.out;rw[show (rowX t n bs p,(0:Int)).1.length=n.sectors.length from HRN.out] at hvi;obtain⟨al,cl,el,_,_,hlv⟩:=hvi.ints;injection el with el1 _ el3;subst el1 el3;have HLC:Hid (∀ k,k<n.sectors.length→∃ lb lo,a8=some ⟨lb,lo,none⟩∧lb<w3.heap.size∧∀ W:World,OI w3 w3 W→W.cell? ⟨lb,lo+k,none⟩=some (J (levX t n bs p (zad n.sectors k)))):=fun k hk=>by
  obtain⟨lb,lo,ea,hb,hat⟩:=hlv (by show 0<(rowX t n bs p).length;rw[HRN.out];omega);have h:=hat k (by show k<(rowX t n bs p).length;rw[HRN.out];exact hk);have h2:w3.cell? ⟨lb,lo+k,none⟩=some (J ((rowX t n bs p)[k]'(by rw[HRN.out];exact hk))):=h;rw[HLV.out k hk] at h2;exact⟨lb,lo,ea,hb,fun W hW=>(bat hW lb _ hb).trans h2⟩
 have HS:Hid (∀ k,k<n.sectors.length→∃ b off,A1=some ⟨b,off,none⟩∧b<w1.heap.size∧∀ W:World,OI W0 W0 W→(W.cell? ⟨b,off+k*9,none⟩=some (IQ (zad n.sectors k).name)∧W.cell? ⟨b,off+k*9+8,none⟩=some (J (zad n.sectors k).channel))):=fun k hk=>by
  obtain⟨b,off,ea,hb,hat⟩:=HSC.out II;obtain⟨s0,s1,s2,s3,s4,s5,s6,s7,s8⟩:=hat k hk;rw[za6 hk] at s0 s8;exact⟨b,off,ea,hb,fun W hW=>⟨(bat (B01.out.trans (hW.mono B01.out.size)) b _ hb).trans s0,(bat (B01.out.trans (hW.mono B01.out.size)) b _ hb).trans s8⟩⟩
 have HCH:Hid (∀ k:Nat,(zad n.sectors k).channel<0→levX t n bs p (zad n.sectors k) = -300000):=fun k h=>chan_not h
 have HSU:Hid (∀ k,k<n.sectors.length→col DSector.name (fun x:DSector=>decide (p.limit<levX t n bs p x)) (n.sectors.take (k+1))=col DSector.name (fun x:DSector=>decide (p.limit<levX t n bs p x)) (n.sectors.take k)++(if decide (p.limit<levX t n bs p (zad n.sectors k))=true then [(zad n.sectors k).name] else [])):=fun k hk=>by rw[col_take_succ DSector.name (fun x:DSector=>decide (p.limit<levX t n bs p x)) n.sectors k hk,za6 hk]
 have HCL:Hid (∀ k:Nat,(col DSector.name (fun x:DSector=>decide (p.limit<levX t n bs p x)) (n.sectors.take k)).length≤n.sectors.length):=fun k=>Nat.le_trans (col_len _ _ _) (by rw[List.length_take];omega)
 have hnl2:(n.sectors.length:Int)≤60:=II
 clear hc e1 e2 hvi hlv RV HLV HRN HSC RN B01;obtain⟨t0,t1,t2,t3,t4,t5,t6,t7,t8,t9,t10,t11,t12,t13,t14,t15⟩:=HD.out _ HB.out;go_upto_region 11 with (fail);clear t0 t1 t2 t3 t4 t5 t6 t7 t8 t9 t10 t11 t12 t13 t14 t15;have HG0:Hid (Grow (w3.alloc (.cells #[] 9)) w3.heap.size 9 1 (IZ (some ⟨w3,0,none⟩) 0 0) 0 [] []):=⟨⟨[],zep w3 9 1,rfl⟩,List.nodup_nil,fun b h=>by simp at h,fun g _=>by simp⟩
 have HW4:Hid (OI w3 w3 (w3.alloc (.cells #[] 9))):=zak _ _;generalize w3.alloc (.cells #[] 9)=w4 at *;go_wp2;go_loopw [11,12] (fun os ki wr=>∃ k:Nat,k≤n.sectors.length∧ki=J (k:Int)∧OI w3 w3 wr∧Grow wr w3.heap.size 9 1 os (col DSector.name (fun x:DSector=>decide (p.limit<levX t n bs p x)) (n.sectors.take k)).length ((col DSector.name (fun x:DSector=>decide (p.limit<levX t n bs p x)) (n.sectors.take k)).map strT) []) (fun _ i wr=>n.sectors.length-(intOf i).toNat)
 case atStart=>exact⟨0,Nat.zero_le _,rfl,HW4.out,by simpa [col] using HG0.out⟩
 case round =>
  obtain⟨k,hk,rfl,hbw,hgr⟩:=hrel;obtain⟨xs_,ho_,_⟩:=hgr.own;obtain⟨aw,cw,ev,_⟩:=zar ho_;subst ev;clear ho_;have HBw:=IJ hbw;have HG:=IJ hgr;have zr:=hbw.size;have HBr:=btr HB hbw;clear hbw hgr HG0 HW4;have k0:(0:Int)≤(k:Int):=II
  by_cases hlt:k<n.sectors.length
  case neg =>
   obtain rfl:k=n.sectors.length:=II
   have hki:¬ (n.sectors.length:Int)<(n.sectors.length:Int):=II
   rw[List.take_length] at HG;simp only[List.take_length];obtain⟨av,cv,fv,ev,ov,iv⟩:=HG.out.toOwn (lo:=w3.heap.size) II In.nil (Nat.le_refl _);injection ev with ev1 _ ev3;subst ev1 ev3;have CW:=IJ (b10Words_same (col DSector.name (fun x:DSector=>decide (p.limit<levX t n bs p x)) n.sectors) _ _ wr ((RE3.out.below HBw.out).mono zr) (ov.rd iv) (by have:=col_len DSector.name (fun x:DSector=>decide (p.limit<levX t n bs p x)) n.sectors;omega));clear ov iv HG HS HSU HCL HLC HCH RE3;go_wp2_with (fail)
   go_at_call 17
   refine CW.out.mono ?_;rintro e w9 ⟨rfl,hb9⟩;have HB9:=IJ (BW3.out.trans ((HBw.out.mono BW3.out.size).trans (hb9.mono (by have:=BW3.out.size;omega))));clear hb9 CW;go_wp2;go_ret;exact⟨rfl,HB9.out⟩
  have k1:(k:Int)<(n.sectors.length:Int):=II
  have HSk:=IJ (HSU.out k hlt);have HCk:=IJ (HCH.out k);have hcl:=HCL.out k;obtain⟨lb,lo,rfl,hlb,hlc⟩:=HLC.out k hlt;obtain⟨b,off,rfl,hb,hcs⟩:=HS.out k hlt;have HLc:=IJ hlc;have HCs:=IJ hcs;clear HSU HLC HCL HS HCH hlc hcs RE3;obtain⟨cl2,hcl2e⟩:∃ x,x=col DSector.name (fun x:DSector=>decide (p.limit<levX t n bs p x)) (n.sectors.take (k+1)):=⟨_,rfl⟩
  rw[← hcl2e] at HSk;have HC2:=IJ hcl2e;clear hcl2e;generalize levX t n bs p (zad n.sectors k)=lv at *;generalize col DSector.name (fun x:DSector=>decide (p.limit<levX t n bs p x)) (n.sectors.take k)=cl at *;have hcl2:(cl.length:Int)≤60:=II
  generalize zad n.sectors k=x at *;go_upto_region 14 with (fail);obtain⟨t0,t1,t2,t3,t4,t5,t6,t7,t8,t9,t10,t11,t12,t13,t14,t15⟩:=HD.out _ HBr.out;have lv0:=HLc.out _ HBw.out;refine za1 7 [(0,true),(1,true),(2,true),(3,true),(4,true),(5,true),(6,true)] (fun W=>W.cell? ⟨lb,lo+k,none⟩=some (J lv)∧W.cell? ⟨w1.heap.size+1+1,6,none⟩=some (J p.limit)) JI JI ⟨lv0,t15⟩ (fun hHeld=>?_);have HBd:=IJ HBw.out.drew;have HGd:=IJ (show Grow wr.drew w3.heap.size 9 1 (IZ aw cl.length cw) cl.length (cl.map strT) [] from HG.out.frame (fun _ _=>rfl) (fun _ _=>rfl));have HBrd:=btr HB HBd.out;have zrd:w3.heap.size≤wr.drew.heap.size:=zr;clear t0 t1 t2 t3 t4 t5 t6 t7 t8 t9 t10 t11 t12 t13 t14 t15 lv0 HBw HG HBr zr;generalize wr.drew=Y0 at *;clear hHeld
  iterate 7 (refine zaj (v:=?_) rfl (fun _ _ _ h=>h) ?_ ?_;rotate_left;focus (intro W hSW;(try dsimp only at hSW);(go_simp<;>with_reducible rfl));(try simp only[Act.put,OO,OJ,OQ]))
  refine zb1 ?_;simp only[List.drop_succ_cons,List.drop_zero];simp only[Act.put,OO,OJ,OQ];go_upto_if 76 with (fail);go_cut [11] (fun s11 wx=>OI w3 w3 wx∧Grow wx w3.heap.size 9 1 s11 cl2.length (cl2.map strT) [])
  case first =>
   by_cases hl:p.limit<lv
   ·have d2:decide (p.limit<lv)=true:=decide_eq_true hl
    obtain⟨t0,t1,t2,t3,t4,t5,t6,t7,t8,t9,t10,t11,t12,t13,t14,t15⟩:=HD.out _ HBrd.out;obtain⟨s0,s8⟩:=HCs.out _ HBrd.out;go_wp2_with (at_builtin;refine zao rfl (.tmp 77) (.tmp 84) _ rfl w3.heap.size 9 i0 _ 1 16 Tryz.underlying60 hi0 hz0 hz1 hz2 rfl II _ _ _ [] rfl HGd.out [IQ x.name] [strT x.name] [] rfl 1 rfl (fun u hu=>by simp at hu;subst hu;rfl) (RepV.lits [IQ x.name]) List.nodup_nil (fun b h=>by simp at h) 0 In.nil In.nil (by simp) (by simp) (by unfold maxLen;omega) II II ?_;intro v9 w9 hgn;(have HGN:=IJ hgn);clear hgn);go_meet;refine⟨HBd.out.trans HGN.out.below,?_⟩;have h:=HGN.out.grow;rw[HSk.out,if_pos d2,List.length_append,List.map_append];exact h
   ·have d2:decide (p.limit<lv)=false:=decide_eq_false hl
    go_wp2;go_meet;refine⟨HBd.out,?_⟩;rw[HSk.out,d2,if_neg (by decide),List.append_nil];exact HGd.out
  case rest =>
   obtain⟨hbx,hgx⟩:=hcut;obtain⟨xs_,ho_,_⟩:=hgx.own;obtain⟨ax,cx,ev,_⟩:=zar ho_;subst ev;clear ho_;have HBx:=IJ hbx;have HGx:=IJ hgx;have HBr:=btr HB hbx;clear HBd HGd HBrd hbx hgx HSk;obtain⟨t0,t1,t2,t3,t4,t5,t6,t7,t8,t9,t10,t11,t12,t13,t14,t15⟩:=HD.out _ HBr.out;have lv0:=HLc.out _ HBx.out;obtain⟨s0,s8⟩:=HCs.out _ HBr.out
   by_cases hch:x.channel<0
   ·have hlv:=HCk.out hch
    subst hlv;have d3:decide (x.channel<0)=true:=decide_eq_true hch;go_wp2;go_roundw
    case rel=>exact⟨k+1,II,by go_num,HBx.out,by rw[← HC2.out];exact HGx.out⟩
    case measure=>simp only[intOf];omega
   ·have d3:decide (x.channel<0)=false:=decide_eq_false hch
    go_wp2;go_roundw
    case rel=>exact⟨k+1,II,by go_num,HBx.out,by rw[← HC2.out];exact HGx.out⟩
    case measure=>simp only[intOf];omega
end Go.Proofs.YtpakghepnahooaaGreatDoor.fnLimits
