/- Contracts: the gain of an antenna toward a direction, continued. Conditions: valid antennas. -/
import Derived.Test.YtgmapjgodibchaaGreatDoorNetF
set_option linter.unusedVariables false
set_option linter.unusedSimpArgs false
namespace Go.Proofs.YtgmapjgodibchaaGreatDoor
open Go.RowKit
def pickR {α:Type} (n:DNetwork) (f:Nat→α) (z:α) (i:Int):α × Int:=if netB n=true then (if 0≤i then (f i.toNat,0) else (z,3)) else (z,1)
theorem pickR_bad {α:Type} {n:DNetwork} {f:Nat→α} {z:α} {i:Int} (h:netB n=false):pickR n f z i=(z,1):=by unfold pickR;rw[if_neg (by simp[h])]
theorem pickR_none {α:Type} {n:DNetwork} {f:Nat→α} {z:α} {i:Int} (h:netB n=true) (hi:i = -1):pickR n f z i=(z,3):=by unfold pickR;rw[if_pos h,if_neg O]
theorem pickR_some {α:Type} {n:DNetwork} {f:Nat→α} {z:α} {i:Int} {k:Nat} (h:netB n=true) (hi:i=(k:Int)):pickR n f z i=(f k,0):=by unfold pickR;rw[if_pos h,if_pos O,hi,Int.toNat_natCast]
set_option maxHeartbeats 8000000
set_option maxRecDepth 100000
def endR (n:DNetwork) (x:DSector):DEnd:=⟨(zen n.sites (zb9 n.sites x.site).toNat).place,x.above⟩
theorem iEnd_any (n:DNetwork) (x:DSector) (v0 v1 v2 v3:Value) (w:World) (r0:Rd w w (DSite.sT n.sites) v0) (l0:n.sites.length≤1099511627776) (k:Nat) (hk:k<n.sites.length) (hi:zb9 n.sites x.site=(k:Int)) :
  Calls Tryz.prog 57 #[.agg #[v0,v1,v2,v3],.agg #[F x.name,F x.site,F x.antenna,F x.radio,F x.band,I x.azimuth,I x.tilt,I x.above,I x.channel]] w fun e w'=>e=.returned (.agg #[I (endR n x).place.x,I (endR n x).place.y,I (endR n x).above])∧IJ w w w':=by
 have b0:IJ w w (((w.alloc (.cells #[v0,v1,v2,v3] 44)).alloc (.cells #[F x.name,F x.site,F x.antenna,F x.radio,F x.band,I x.azimuth,I x.tilt,I x.above,I x.channel] 105)).alloc (.cells #[I 0,I 0,I 0] 68)):=((((Below.refl _ _).alloc (Nat.le_refl _) _).alloc (by first|(simp;done)|(simp<;>omega)) _).alloc (by first|(simp;done)|(simp<;>omega)) _)
 have z0:(((w.alloc (.cells #[v0,v1,v2,v3] 44)).alloc (.cells #[F x.name,F x.site,F x.antenna,F x.radio,F x.band,I x.azimuth,I x.tilt,I x.above,I x.channel] 105)).alloc (.cells #[I 0,I 0,I 0] 68)).heap.size=w.heap.size+3:=by simp
 have HE:Hid (endR n x=⟨(zen n.sites k).place,x.above⟩):=by show _=_;unfold endR;rw[hi,Int.toNat_natCast]
 have HS:Hid (∀ W:World,IJ w w W→Calls Tryz.prog 106 #[.agg #[v0,v1,v2,v3],F x.site] W fun e w'=>e=.returned (I (k:Int))∧IJ W W w'):=fun W hW=>by
  have:=siteNamed_any n.sites x.site v0 v1 v2 v3 w.heap.size W (r0.below hW) hW.size l0;rw[hi] at this;exact this
 obtain⟨a,c,e,_,_,hcl⟩:=DSite.rd r0;obtain⟨b,off,ea,hbl,hat⟩:=hcl O;subst ea e;obtain⟨_,_,s2,s3⟩:=hat k hk;rw[zct hk] at s2 s3;have i1:(0:Int)≤(k:Int):=O
 have i2:(k:Int)<(n.sites.length:Int):=O
 clear hcl hat r0 hi;generalize zen n.sites k=X at *;go_enter Tryz.func57,Tryz.ntmps57;go_wp2;have f0:(((w.alloc (.cells #[(II (some ⟨b,off,none⟩) n.sites.length c),v1,v2,v3] 44)).alloc (.cells #[F x.name,F x.site,F x.antenna,F x.radio,F x.band,I x.azimuth,I x.tilt,I x.above,I x.channel] 105)).alloc (.cells #[I 0,I 0,I 0] 68)).cell? ⟨w,0,none⟩=some (II (some ⟨b,off,none⟩) n.sites.length c):=by simp[go_sem]
 have f1:(((w.alloc (.cells #[(II (some ⟨b,off,none⟩) n.sites.length c),v1,v2,v3] 44)).alloc (.cells #[F x.name,F x.site,F x.antenna,F x.radio,F x.band,I x.azimuth,I x.tilt,I x.above,I x.channel] 105)).alloc (.cells #[I 0,I 0,I 0] 68)).cell? ⟨w,1,none⟩=some v1:=by simp[go_sem]
 have f2:(((w.alloc (.cells #[(II (some ⟨b,off,none⟩) n.sites.length c),v1,v2,v3] 44)).alloc (.cells #[F x.name,F x.site,F x.antenna,F x.radio,F x.band,I x.azimuth,I x.tilt,I x.above,I x.channel] 105)).alloc (.cells #[I 0,I 0,I 0] 68)).cell? ⟨w,2,none⟩=some v2:=by simp[go_sem]
 have f3:(((w.alloc (.cells #[(II (some ⟨b,off,none⟩) n.sites.length c),v1,v2,v3] 44)).alloc (.cells #[F x.name,F x.site,F x.antenna,F x.radio,F x.band,I x.azimuth,I x.tilt,I x.above,I x.channel] 105)).alloc (.cells #[I 0,I 0,I 0] 68)).cell? ⟨w,3,none⟩=some v3:=by simp[go_sem]
 have g1:(((w.alloc (.cells #[(II (some ⟨b,off,none⟩) n.sites.length c),v1,v2,v3] 44)).alloc (.cells #[F x.name,F x.site,F x.antenna,F x.radio,F x.band,I x.azimuth,I x.tilt,I x.above,I x.channel] 105)).alloc (.cells #[I 0,I 0,I 0] 68)).cell? ⟨w.heap.size+1,1,none⟩=some (F x.site):=by simp[go_sem]
 have g7:(((w.alloc (.cells #[(II (some ⟨b,off,none⟩) n.sites.length c),v1,v2,v3] 44)).alloc (.cells #[F x.name,F x.site,F x.antenna,F x.radio,F x.band,I x.azimuth,I x.tilt,I x.above,I x.channel] 105)).alloc (.cells #[I 0,I 0,I 0] 68)).cell? ⟨w.heap.size+1,7,none⟩=some (I x.above):=by simp[go_sem]
 have h0:(((w.alloc (.cells #[(II (some ⟨b,off,none⟩) n.sites.length c),v1,v2,v3] 44)).alloc (.cells #[F x.name,F x.site,F x.antenna,F x.radio,F x.band,I x.azimuth,I x.tilt,I x.above,I x.channel] 105)).alloc (.cells #[I 0,I 0,I 0] 68)).cell? ⟨w.heap.size+1+1,0,none⟩=some (I 0):=by simp[go_sem]
 have h1:(((w.alloc (.cells #[(II (some ⟨b,off,none⟩) n.sites.length c),v1,v2,v3] 44)).alloc (.cells #[F x.name,F x.site,F x.antenna,F x.radio,F x.band,I x.azimuth,I x.tilt,I x.above,I x.channel] 105)).alloc (.cells #[I 0,I 0,I 0] 68)).cell? ⟨w.heap.size+1+1,1,none⟩=some (I 0):=by simp[go_sem]
 have h2:(((w.alloc (.cells #[(II (some ⟨b,off,none⟩) n.sites.length c),v1,v2,v3] 44)).alloc (.cells #[F x.name,F x.site,F x.antenna,F x.radio,F x.band,I x.azimuth,I x.tilt,I x.above,I x.channel] 105)).alloc (.cells #[I 0,I 0,I 0] 68)).cell? ⟨w.heap.size+1+1,2,none⟩=some (I 0):=by simp[go_sem]
 have hz:∀ o,(((w.alloc (.cells #[(II (some ⟨b,off,none⟩) n.sites.length c),v1,v2,v3] 44)).alloc (.cells #[F x.name,F x.site,F x.antenna,F x.radio,F x.band,I x.azimuth,I x.tilt,I x.above,I x.channel] 105)).alloc (.cells #[I 0,I 0,I 0] 68)).frozen? ⟨w.heap.size+1+1,o,none⟩=false:=by intro o;simp[go_sem]
 have t2:=(bat b0 b _ hbl).trans s2;have t3:=(bat b0 b _ hbl).trans s3;generalize (((w.alloc (.cells #[(II (some ⟨b,off,none⟩) n.sites.length c),v1,v2,v3] 44)).alloc (.cells #[F x.name,F x.site,F x.antenna,F x.radio,F x.band,I x.azimuth,I x.tilt,I x.above,I x.channel] 105)).alloc (.cells #[I 0,I 0,I 0] 68))=W1 at *;have B0:=J b0;have hcf:W1.cell? ⟨w,0,none⟩=some (II (some ⟨b,off,none⟩) n.sites.length c)∧W1.cell? ⟨w,1,none⟩=some v1∧W1.cell? ⟨w,2,none⟩=some v2∧W1.cell? ⟨w,3,none⟩=some v3∧W1.cell? ⟨w.heap.size+1,1,none⟩=some (F x.site)∧W1.cell? ⟨w.heap.size+1,7,none⟩=some (I x.above)∧W1.cell? ⟨b,off+k*4+2,none⟩=some (I X.place.x)∧W1.cell? ⟨b,off+k*4+3,none⟩=some (I X.place.y):=⟨f0,f1,f2,f3,g1,g7,t2,t3⟩
 clear b0;have nb:b≠w.heap.size+1+1:=O
 go_region_held3 (fun W=>W.cell? ⟨w,0,none⟩=some (II (some ⟨b,off,none⟩) n.sites.length c)∧W.cell? ⟨w,1,none⟩=some v1∧W.cell? ⟨w,2,none⟩=some v2∧W.cell? ⟨w,3,none⟩=some v3∧W.cell? ⟨w.heap.size+1,1,none⟩=some (F x.site)∧W.cell? ⟨w.heap.size+1,7,none⟩=some (I x.above)∧W.cell? ⟨b,off+k*4+2,none⟩=some (I X.place.x)∧W.cell? ⟨b,off+k*4+3,none⟩=some (I X.place.y)) (first|exact hcf|(refine⟨?_,?_,?_,?_,?_,?_,?_,?_⟩<;>simp[go_sem, *])) (first|(go_at_call 106;refine (HS.out _ B0.out.drew).mono ?_;rintro e w2 ⟨rfl,hb2⟩;obtain⟨qn2,_,yn2⟩:=zah hb2 (b:=w.heap.size) (by show w.heap.size<W1.heap.size;omega);obtain⟨qx2,_,yx2⟩:=zah hb2 (b:=w.heap.size+1) (by show w.heap.size+1<W1.heap.size;omega);obtain⟨qe2,qf2,ye2⟩:=zah hb2 (b:=w.heap.size+1+1) (by show w.heap.size+1+1<W1.heap.size;omega);obtain⟨qb2,_,yb2⟩:=zah hb2 (b:=b) (by show b<W1.heap.size;omega)))
 have B2:=J (B0.out.drew.trans (hb2.mono B0.out.size));clear hb2;go_wp2;refine bodyPost_ret (v:=.agg #[I X.place.x,I X.place.y,I x.above]) (by simp[results,Tryz.results57,go_sem, *]) rfl ?_;rw[HE.out];exact⟨rfl,((B2.out.setCell (p:=⟨w.heap.size+1+1,0,none⟩) (by show w.heap.size≤w.heap.size+1+1;omega) _).setCell (p:=⟨w.heap.size+1+1,1,none⟩) (by show w.heap.size≤w.heap.size+1+1;omega) _).setCell (p:=⟨w.heap.size+1+1,2,none⟩) (by show w.heap.size≤w.heap.size+1+1;omega) _⟩
theorem l14End_any (n:DNetwork) (v0 v1:Value) (bp q:Nat) (w:World) (r0:Rd w w (DSite.sT n.sites) v0) (r1:Rd w w (DSector.sT n.sectors) v1) (hbp:bp<w.heap.size) (p0:w.cell? ⟨bp,0,none⟩=some v0) (p1:w.cell? ⟨bp,1,none⟩=some v1) (l0:n.sites.length≤1099511627776) (l1:n.sectors.length≤1099511627776) (hq:q<n.sectors.length) (k:Nat) (hk:k<n.sites.length) (hi:zb9 n.sites (zab n.sectors q).site=(k:Int)) :
  Calls Tryz.prog 117 #[.pointer (some ⟨bp,0,none⟩),I (q:Int)] w fun e w'=>e=.returned (.agg #[I (endR n (zab n.sectors q)).place.x,I (endR n (zab n.sectors q)).place.y,I (endR n (zab n.sectors q)).above])∧IJ w w w':=by
 have b0:IJ w w (w.alloc (.cells #[I 0,I 0,I 0] 68)):=(Below.refl _ _).alloc (Nat.le_refl _) _;have z0:(w.alloc (.cells #[I 0,I 0,I 0] 68)).heap.size=w.heap.size+1:=by simp
 have HE:Hid (endR n (zab n.sectors q)=⟨(zen n.sites k).place,(zab n.sectors q).above⟩):=by show _=_;unfold endR;rw[hi,Int.toNat_natCast]
 have HS:Hid (∀ W:World,IJ w w W→Calls Tryz.prog 154 #[.pointer (some ⟨bp,0,none⟩),F (zab n.sectors q).site] W fun e w'=>e=.returned (I (k:Int))∧W=w'):=fun W hW=>by
  have:=l14FindSite_any n.sites (zab n.sectors q).site v0 bp w.heap.size W (r0.below hW) hW.size ((bat hW bp 0 hbp).trans p0) l0;rw[hi] at this;exact this
 obtain⟨a,c,e,_,_,hcl⟩:=DSite.rd r0;obtain⟨b,off,ea,hbl,hat⟩:=hcl O;subst ea e;obtain⟨a',c',e',_,_,hcl'⟩:=DSector.rd r1;obtain⟨b',off',ea',hbl',hat'⟩:=hcl' O;subst ea' e';obtain⟨_,_,s2,s3⟩:=hat k hk;obtain⟨_,u1,_,_,_,_,_,u7,_⟩:=hat' q hq;rw[zct hk] at s2 s3;rw[za5 hq] at u1 u7;have i1:(0:Int)≤(k:Int):=O
 have i2:(k:Int)<(n.sites.length:Int):=O
 have j1:(0:Int)≤(q:Int):=O
 have j2:(q:Int)<(n.sectors.length:Int):=O
 clear hcl hat r0 hi hcl' hat' r1;generalize zen n.sites k=X at *;generalize zab n.sectors q=x at *;go_enter Tryz.func117,Tryz.ntmps117;go_wp2;have f0:=(bat b0 bp 0 hbp).trans p0;have f1:=(bat b0 bp 1 hbp).trans p1;have g1:=(bat b0 b' _ hbl').trans u1;have g7:=(bat b0 b' _ hbl').trans u7;have t2:=(bat b0 b _ hbl).trans s2;have t3:=(bat b0 b _ hbl).trans s3;have h0:(w.alloc (.cells #[I 0,I 0,I 0] 68)).cell? ⟨w,0,none⟩=some (I 0):=by simp[go_sem]
 have h1:(w.alloc (.cells #[I 0,I 0,I 0] 68)).cell? ⟨w,1,none⟩=some (I 0):=by simp[go_sem]
 have h2:(w.alloc (.cells #[I 0,I 0,I 0] 68)).cell? ⟨w,2,none⟩=some (I 0):=by simp[go_sem]
 have hz:∀ o,(w.alloc (.cells #[I 0,I 0,I 0] 68)).frozen? ⟨w.heap.size,o,none⟩=false:=by intro o;simp[go_sem]
 generalize w.alloc (.cells #[I 0,I 0,I 0] 68)=W1 at *;have B0:=J b0;have hcf:W1.cell? ⟨bp,0,none⟩=some (II (some ⟨b,off,none⟩) n.sites.length c)∧W1.cell? ⟨b',off' + q*9+1,none⟩=some (F x.site)∧W1.cell? ⟨b',off' + q*9+7,none⟩=some (I x.above)∧W1.cell? ⟨b,off+k*4+2,none⟩=some (I X.place.x)∧W1.cell? ⟨b,off+k*4+3,none⟩=some (I X.place.y):=⟨f0,g1,g7,t2,t3⟩
 clear b0 p0 p1 u1 u7 s2 s3;have nb:b≠w.heap.size:=O
 have nb':b'≠w.heap.size:=O
 have np:bp≠w.heap.size:=O
 go_region_held3 (fun W=>W.cell? ⟨bp,0,none⟩=some (II (some ⟨b,off,none⟩) n.sites.length c)∧W.cell? ⟨b',off' + q*9+1,none⟩=some (F x.site)∧W.cell? ⟨b',off' + q*9+7,none⟩=some (I x.above)∧W.cell? ⟨b,off+k*4+2,none⟩=some (I X.place.x)∧W.cell? ⟨b,off+k*4+3,none⟩=some (I X.place.y)) (first|exact hcf|(refine⟨?_,?_,?_,?_,?_⟩<;>simp[go_sem, *])) (first|(go_at_call 154;refine (HS.out _ B0.out.drew).mono ?_;rintro e w2 ⟨rfl,rfl⟩))
 have B2:=J B0.out.drew;go_wp2;refine bodyPost_ret (v:=.agg #[I X.place.x,I X.place.y,I x.above]) (by simp[results,Tryz.results117,go_sem, *]) rfl ?_;rw[HE.out];refine⟨rfl,?_⟩;exact ((B0.out.setCell (p:=⟨w,0,none⟩) (by show w.heap.size≤w.heap.size;omega) _).setCell (p:=⟨w,1,none⟩) (by show w.heap.size≤w.heap.size;omega) _).setCell (p:=⟨w,2,none⟩) (by show w.heap.size≤w.heap.size;omega) _ |>.drew
theorem site_of_sector {n:DNetwork} (h:netB n=true) {q:Nat} (hq:q<n.sectors.length):∃ k,∃ hk:k<n.sites.length,zb9 n.sites (zab n.sectors q).site=(k:Int):=by
 have h8:zba (fun x=>zan x&&zar n x) zbd n.sectors=true:=by
  rw[netB_eq] at h;simp only[Bool.and_eq_true] at h;exact h.2.2.2.2
 have:=rowOk_ok h8 hq;rw[za5 hq] at this;have h2:zar n (zab n.sectors q)=true:=by simpa using (Bool.and_eq_true_iff.1 this).2
 unfold zar at h2;rw[Bool.and_eq_true,decide_eq_true_iff] at h2
 rcases zbs (fun y:DSite=>eqS y.name (zab n.sectors q).site) n.sites with ⟨hi,_⟩|⟨k,hk,hi,_,_⟩
 ·have:=h2.1
  unfold zb9 at this;rw[hi] at this;omega
 ·exact⟨k,hk,hi⟩
theorem sEndOf_std (n:DNetwork) (nm:ByteArray) (vn0 vn1 vn2 vn3:Value) (w:World) (rn0:Rd w w (DSite.sT n.sites) vn0) (rn1:Rd w w (DSector.sT n.sectors) vn1) (rn2:Rd w w (DAntenna.sT n.antennas) vn2) (rn3:Rd w w (DRadio.sT n.radios) vn3) (hs_n:sizL n.tr≤1048576) (hk_n:n.ok) (hs_nm:nm.size≤1048576) :
  Calls Tryz.prog 90 #[.agg #[vn0,vn1,vn2,vn3],F nm] w (fun e w'=>e=.returned (.tuple #[.agg #[I (pickR n (fun k=>endR n (zab n.sectors k)) ⟨⟨0,0⟩,0⟩ (zbg n.sectors nm)).1.place.x,I (pickR n (fun k=>endR n (zab n.sectors k)) ⟨⟨0,0⟩,0⟩ (zbg n.sectors nm)).1.place.y,I (pickR n (fun k=>endR n (zab n.sectors k)) ⟨⟨0,0⟩,0⟩ (zbg n.sectors nm)).1.above],I (pickR n (fun k=>endR n (zab n.sectors k)) ⟨⟨0,0⟩,0⟩ (zbg n.sectors nm)).2])∧IJ w w w'):=by
 have hq:=DNetwork.siz_tr n;rw[DSite.siz_s,DSector.siz_s,DAntenna.siz_s,DRadio.siz_s] at hq;obtain⟨A0,C0,e0,_,_,_⟩:=DSite.rd rn0;obtain⟨A1,C1,e1,_,_,_⟩:=DSector.rd rn1;obtain⟨A2,C2,e2,_,_,_⟩:=DAntenna.rd rn2;obtain⟨A3,C3,e3,_,_,_⟩:=DRadio.rd rn3;subst e0 e1 e2 e3;have b0:IJ w w ((w.alloc (.cells #[II A0 n.sites.length C0,II A1 n.sectors.length C1,II A2 n.antennas.length C2,II A3 n.radios.length C3] 44)).alloc (.cells #[I 0,I 0,I 0] 68)):=(((Below.refl _ _).alloc (Nat.le_refl _) _).alloc (by first|(simp;done)|(simp<;>omega)) _)
 have y0:w.heap.size+2≤((w.alloc (.cells #[II A0 n.sites.length C0,II A1 n.sectors.length C1,II A2 n.antennas.length C2,II A3 n.radios.length C3] 44)).alloc (.cells #[I 0,I 0,I 0] 68)).heap.size:=by first|(simp;done)|(simp<;>omega)
 have HV:=J (l14Ok_any n _ _ _ _ w.heap.size ((w.alloc (.cells #[II A0 n.sites.length C0,II A1 n.sectors.length C1,II A2 n.antennas.length C2,II A3 n.radios.length C3] 44)).alloc (.cells #[I 0,I 0,I 0] 68)) ((rn0.below b0).mono b0.size) ((rn1.below b0).mono b0.size) ((rn2.below b0).mono b0.size) ((rn3.below b0).mono b0.size) O (by simp[go_sem]) (by simp[go_sem]) (by simp[go_sem]) (by simp[go_sem]) O hk_n);have HI:Hid (∀ W:World,IJ w w W→W.cell? ⟨w,1,none⟩=some (II A1 n.sectors.length C1)→Calls Tryz.prog 133 #[.pointer (some ⟨w,0,none⟩),F nm] W fun e w'=>e=.returned (I (zbg n.sectors nm))∧W=w'):=fun W hW hc=>l14Find_any n.sectors nm _ w.heap.size w.heap.size W (rn1.below hW) hW.size hc O
 have HN:Hid (∀ (W:World) (j k:Nat),IJ w w W→w.heap.size<W.heap.size→W.cell? ⟨w,0,none⟩=some (II A0 n.sites.length C0)→W.cell? ⟨w,1,none⟩=some (II A1 n.sectors.length C1)→j<n.sectors.length→k<n.sites.length→zb9 n.sites (zab n.sectors j).site=(k:Int)→Calls Tryz.prog 117 #[.pointer (some ⟨w,0,none⟩),I (j:Int)] W fun e w'=>e=.returned (.agg #[I (endR n (zab n.sectors j)).place.x,I (endR n (zab n.sectors j)).place.y,I (endR n (zab n.sectors j)).above])∧IJ W W w'):=fun W j k hW hz h0 h1 hj hk hi=>l14End_any n _ _ w.heap.size j W ((rn0.below hW).mono hW.size) ((rn1.below hW).mono hW.size) hz h0 h1 O O hj k hk hi
 have B0:=J b0;have HR:=J rn1;clear b0 rn0 rn1 rn2 rn3
 by_cases hv:netB n=true
 ·rcases zbs (fun x:DSector=>eqS x.name nm) n.sectors with ⟨hi,_⟩|⟨k,hk,hi,_,_⟩
  ·have HE:=J (pickR_none (f:=fun k=>endR n (zab n.sectors k)) (z:=⟨⟨0,0⟩,0⟩) (i:=zbg n.sectors nm) hv hi)
   rw[show zbg n.sectors nm = -1 from hi] at HI;clear hi;go_enter Tryz.func90,Tryz.ntmps90;go_wp2_with fail;refine (HV.out).mono ?_;rintro e w2 ⟨rfl,hb2⟩;obtain⟨qa2,_,ya2⟩:=zah hb2 (b:=w.heap.size) O;obtain⟨qb2,qf2,yb2⟩:=zah hb2 (b:=w.heap.size+1) O;have B2:=J (B0.out.trans (hb2.mono B0.out.size));clear hb2;have t0:w2.cell? ⟨w,0,none⟩=some (II A0 n.sites.length C0):=by rw[qa2];simp[go_sem]
   have t1:w2.cell? ⟨w,1,none⟩=some (II A1 n.sectors.length C1):=by rw[qa2];simp[go_sem]
   go_wp2_with fail;refine (HI.out _ B2.out t1).mono ?_;rintro e w3 ⟨rfl,rfl⟩;go_wp2;refine bodyPost_ret (v:=.tuple #[.agg #[I 0,I 0,I 0],I 3]) (by simp[results,Tryz.results90,go_sem, *]) rfl ?_;rw[HE.out];exact⟨rfl,(((B2.out.setCell (p:=⟨w.heap.size+1,0,none⟩) (by show w.heap.size≤w.heap.size+1;omega) _).setCell (p:=⟨w.heap.size+1,1,none⟩) (by show w.heap.size≤w.heap.size+1;omega) _).setCell (p:=⟨w.heap.size+1,2,none⟩) (by show w.heap.size≤w.heap.size+1;omega) _)⟩
  ·have HE:=J (pickR_some (f:=fun k=>endR n (zab n.sectors k)) (z:=⟨⟨0,0⟩,0⟩) (i:=zbg n.sectors nm) hv hi)
   rw[show zbg n.sectors nm=(k:Int) from hi] at HI;clear hi;obtain⟨ks,hks,his⟩:=site_of_sector hv hk;go_enter Tryz.func90,Tryz.ntmps90;go_wp2_with fail;refine (HV.out).mono ?_;rintro e w2 ⟨rfl,hb2⟩;obtain⟨qa2,_,ya2⟩:=zah hb2 (b:=w.heap.size) O;obtain⟨qb2,qf2,yb2⟩:=zah hb2 (b:=w.heap.size+1) O;have B2:=J (B0.out.trans (hb2.mono B0.out.size));clear hb2;have t0:w2.cell? ⟨w,0,none⟩=some (II A0 n.sites.length C0):=by rw[qa2];simp[go_sem]
   have t1:w2.cell? ⟨w,1,none⟩=some (II A1 n.sectors.length C1):=by rw[qa2];simp[go_sem]
   go_wp2_with fail;refine (HI.out _ B2.out t1).mono ?_;rintro e w3 ⟨rfl,rfl⟩;have HEN:=J (HN.out w2 k ks B2.out ya2 t0 t1 hk hks his);have i1:(0:Int)≤(k:Int):=O
   generalize endR n (zab n.sectors k)=X at *;go_wp2_with fail;refine (HEN.out).mono ?_;rintro e w4 ⟨rfl,hb4⟩;obtain⟨qb4,qf4,yb4⟩:=zah hb4 (b:=w.heap.size+1) yb2;have B4:=J (B2.out.trans (hb4.mono B2.out.size));clear hb4;go_wp2;refine bodyPost_ret (v:=.tuple #[.agg #[I X.place.x,I X.place.y,I X.above],I 0]) (by simp[results,Tryz.results90,go_sem, *]) rfl ?_;rw[HE.out];exact⟨rfl,(((B4.out.setCell (p:=⟨w.heap.size+1,0,none⟩) (by show w.heap.size≤w.heap.size+1;omega) _).setCell (p:=⟨w.heap.size+1,1,none⟩) (by show w.heap.size≤w.heap.size+1;omega) _).setCell (p:=⟨w.heap.size+1,2,none⟩) (by show w.heap.size≤w.heap.size+1;omega) _)⟩
 ·replace hv:netB n=false:=Bool.eq_false_iff.2 hv
  have HE:=J (pickR_bad (f:=fun k=>endR n (zab n.sectors k)) (z:=⟨⟨0,0⟩,0⟩) (i:=zbg n.sectors nm) hv);go_enter Tryz.func90,Tryz.ntmps90;go_wp2_with fail;refine (HV.out).mono ?_;rintro e w2 ⟨rfl,hb2⟩;obtain⟨qa2,_,ya2⟩:=zah hb2 (b:=w.heap.size) O;obtain⟨qb2,qf2,yb2⟩:=zah hb2 (b:=w.heap.size+1) O;have B2:=J (B0.out.trans (hb2.mono B0.out.size));clear hb2;go_wp2;refine bodyPost_ret (v:=.tuple #[.agg #[I 0,I 0,I 0],I 1]) (by simp[results,Tryz.results90,go_sem, *]) rfl ?_;rw[HE.out];exact⟨rfl,(((B2.out.setCell (p:=⟨w.heap.size+1,0,none⟩) (by show w.heap.size≤w.heap.size+1;omega) _).setCell (p:=⟨w.heap.size+1,1,none⟩) (by show w.heap.size≤w.heap.size+1;omega) _).setCell (p:=⟨w.heap.size+1,2,none⟩) (by show w.heap.size≤w.heap.size+1;omega) _)⟩
set_option maxHeartbeats 2000000
def mixN (l m u:Int):Int:=(l*(10-u)+m*u+5) / 10
theorem mul_bd {l u:Int} (h0:0≤l) (h1:l≤60000) (u0:0≤u) (u1:u≤10):0≤l*u∧l*u≤600000:=by
 refine⟨Int.mul_nonneg h0 u0,?_⟩;have:=Int.mul_le_mul h1 u1 u0 O;omega
theorem mix_bd {l m u:Int} (l0:0≤l) (l1:l≤60000) (m0:0≤m) (m1:m≤60000) (u0:0≤u) (u1:u≤9):0≤mixN l m u∧mixN l m u≤60000:=by
 have e:l*(10-u)+m*u≤60000*(10-u)+60000*u:=Int.add_le_add (Int.mul_le_mul_of_nonneg_right l1 O) (Int.mul_le_mul_of_nonneg_right m1 u0);have a:=Int.mul_nonneg l0 (show 0≤10-u by omega);have b:=Int.mul_nonneg m0 u0;unfold mixN;omega
theorem mix_same (l:Int):mixN l l 0=l:=by unfold mixN;omega
theorem mixedLoss_any (l m u:Int) (w:World) (l0:0≤l) (l1:l≤60000) (m0:0≤m) (m1:m≤60000) (u0:0≤u) (u1:u≤9) :
  Calls Tryz.prog 245 #[I l,I m,I u] w fun e w'=>e=.returned (I (mixN l m u))∧w=w':=by
 have a:=mul_bd l0 l1 (show 0≤10-u by omega) O;have b:=mul_bd m0 m1 u0 O;obtain⟨a1,a2⟩:=a;obtain⟨b1,b2⟩:=b;have d0:(0:Int)≤10-u:=O
 unfold mixN;go_enter Tryz.func245,Tryz.ntmps245;go_wp2;go_ret;exact⟨rfl,rfl⟩
theorem l06Mix_any (l m u:Int) (w:World) (l0:0≤l) (l1:l≤60000) (m0:0≤m) (m1:m≤60000) (u0:0≤u) (u1:u≤9) :
  Calls Tryz.prog 256 #[I l,I m,I u] w fun e w'=>e=.returned (I (mixN l m u))∧w=w':=by
 have a:=mul_bd l0 l1 (show 0≤10-u by omega) O;have b:=mul_bd m0 m1 u0 O;obtain⟨a1,a2⟩:=a;obtain⟨b1,b2⟩:=b;have d0:(0:Int)≤10-u:=O
 unfold mixN;go_enter Tryz.func256,Tryz.ntmps256;go_wp2;go_ret;exact⟨rfl,rfl⟩
def degN (d:Int):Int:=(Int.tmod d 360+360) % 360
theorem tmod_bd (d:Int):-359≤Int.tmod d 360∧Int.tmod d 360≤359:=by
 have h1:=Int.tmod_lt_of_pos d (show (0:Int)<360 by omega);have h2:=Int.lt_tmod_of_pos d (show (0:Int)<360 by omega);omega
theorem deg_bd (d:Int):0≤degN d∧degN d≤359:=by unfold degN;omega
theorem ze3 (d:Int) (w:World):Calls Tryz.prog 250 #[I d] w fun e w'=>e=.returned (I (degN d))∧w=w':=by
 have h:=tmod_bd d;unfold degN;generalize ht:Int.tmod d 360=t at *;go_enter Tryz.func250,Tryz.ntmps250;go_wp2;go_ret;exact⟨rfl,rfl⟩
structure Loss (l:List Int) (n:Nat):Prop where
 len:l.length=n
 bd:∀ i,i<n→0≤gi l i∧gi l i≤60000
theorem antB_loss {a:DAntenna} (h:antB a=true):Loss a.horizontal 36∧Loss a.vertical 19:=by
 rw[antB_eq] at h;simp only[Bool.and_eq_true] at h;have key:∀ (l:List Int) (n m:Nat),zcq l n m=true→Loss l n:=by
  intro l n m hl;unfold zcq at hl;simp only[Bool.and_eq_true] at hl;have hn:=zd8 hl.1;refine⟨hn,fun i hi=>?_⟩;have:=(all_iff l 0 60000).1 hl.2.2 i O;exact zat.1 this
 exact⟨key _ _ _ h.2.2.1,key _ _ _ h.2.2.2⟩
def horN (l:List Int) (angle:Int):Int:=mixN (gi l (degN angle / 10).toNat) (gi l ((degN angle / 10+1) % 36).toNat) (degN angle % 10)
def verN (l:List Int) (e:Int):Int:=mixN (gi l ((e+90) / 10).toNat) (gi l (min ((e+90) / 10+1) 18).toNat) ((e+90) % 10)
theorem hor_bd {l:List Int} (h:Loss l 36) (a:Int):0≤horN l a∧horN l a≤60000:=by
 have hd:=deg_bd a;have h1:=h.bd (degN a / 10).toNat O;have h2:=h.bd ((degN a / 10+1) % 36).toNat O;exact mix_bd h1.1 h1.2 h2.1 h2.2 O O
theorem ver_bd {l:List Int} (h:Loss l 19) (e:Int) (e0:-90≤e) (e1:e≤90):0≤verN l e∧verN l e≤60000:=by
 have h1:=h.bd ((e+90) / 10).toNat O;have h2:=h.bd (min ((e+90) / 10+1) 18).toNat O;exact mix_bd h1.1 h1.2 h2.1 h2.2 O O
theorem Rd.intAt {B:Nat} {w:World} {l:List Int} {a:Option Addr} {c:Nat} (h:Rd B w (zai l) (II a l.length c)) (hl:0<l.length):∃ b off,a=some ⟨b,off,none⟩∧b<B∧∀ i,i<l.length→w.cell? ⟨b,off+i,none⟩=some (I (gi l i)):=by
 obtain⟨a',c',e,_,_,hcl⟩:=h.ints;injection e with e1 _ e3;subst e1 e3;obtain⟨b,off,ea,hb,hat⟩:=hcl hl;exact⟨b,off,ea,hb,fun i hi=>by rw[hat i hi,gi_eq]⟩
theorem horizontal_any (x:DAntenna) (vh vv:Value) (angle:Int) (w:World) (hh:Rd w w (zai x.horizontal) vh) (hL:Loss x.horizontal 36) :
  Calls Tryz.prog 210 #[.agg #[F x.name,I x.gain,vh,vv],I angle] w fun e w'=>e=.returned (I (horN x.horizontal angle))∧IJ w w w':=by
 obtain⟨ah,ch,eh,_,_,_⟩:=hh.ints;subst eh;have hlen:=hL.len;obtain⟨b,off,ea,hbl,hat⟩:=hh.intAt O;subst ea;have ht:=tmod_bd angle;have hd:=deg_bd angle;have HU:Hid (horN x.horizontal angle=mixN (gi x.horizontal (degN angle / 10).toNat) (gi x.horizontal ((degN angle / 10+1) % 36).toNat) (degN angle % 10)):=rfl;have ed:(Int.tmod angle 360+360) % 360=degN angle:=rfl;generalize degN angle=d at *;generalize et:Int.tmod angle 360=t at *;obtain⟨i,ei⟩:=Int.eq_ofNat_of_zero_le (show 0≤d / 10 by omega);obtain⟨j,ej⟩:=Int.eq_ofNat_of_zero_le (show 0≤(d / 10+1) % 36 by omega);rw[ej,ei,Int.toNat_natCast,Int.toNat_natCast] at HU;rw[ei] at ej;have hi:i<36:=O
 have hj:j<36:=O
 have s0:=hat i O;have s1:=hat j O;have q0:=hL.bd i hi;have q1:=hL.bd j hj;have b0:IJ w w (w.alloc (.cells #[F x.name,I x.gain,II (some ⟨b,off,none⟩) x.horizontal.length ch,vv] 154)):=(Below.refl _ _).alloc (Nat.le_refl _) _;have f2:(w.alloc (.cells #[F x.name,I x.gain,II (some ⟨b,off,none⟩) x.horizontal.length ch,vv] 154)).cell? ⟨w,2,none⟩=some (II (some ⟨b,off,none⟩) x.horizontal.length ch):=by simp[go_sem]
 have t0:=(bat b0 b _ hbl).trans s0;have t1:=(bat b0 b _ hbl).trans s1;have u0:0≤d % 10:=O
 have u1:d % 10≤9:=O
 have HM:=J (fun W=>mixedLoss_any (gi x.horizontal i) (gi x.horizontal j) (d % 10) W q0.1 q0.2 q1.1 q1.2 u0 u1);have k1:(0:Int)≤(i:Int):=O
 have k2:(i:Int)<(x.horizontal.length:Int):=O
 have k3:(0:Int)≤(j:Int):=O
 have k4:(j:Int)<(x.horizontal.length:Int):=O
 have k5:(i:Int)≤35:=O
 have B0:=J b0;have HLEN:=J hlen;clear hat s0 s1 q0 q1 hh hlen hL b0;go_enter Tryz.func210,Tryz.ntmps210;go_wp2;generalize w.alloc (.cells #[F x.name,I x.gain,II (some ⟨b,off,none⟩) x.horizontal.length ch,vv] 154)=W1 at *;have i3:IntKind.i64.wrap ((i:Int)+1)=(i:Int)+1:=IntWalk.i64_in _ O;have i4:(0:Int)≤(i:Int)+1:=O
 have i5:Int.tmod ((i:Int)+1) 36=(j:Int):=by rw[Int.tmod_eq_emod_of_nonneg O];exact ej
 have i6:Int.tmod d 10=d % 10:=Int.tmod_eq_emod_of_nonneg O
 go_quiet ((go_at_call 245;exact zb5 (HM.out _)))
 clear i3 i5 i6;go_wp2;go_ret;exact⟨by rw[HU.out];rfl,zbc B0.out _⟩
set_option maxHeartbeats 4000000
theorem vertical_any (x:DAntenna) (vh vv:Value) (e:Int) (w:World) (hh:Rd w w (zai x.vertical) vv) (hL:Loss x.vertical 19) (e0:-90≤e) (e1:e≤90) :
  Calls Tryz.prog 211 #[.agg #[F x.name,I x.gain,vh,vv],I e] w fun r w'=>r=.returned (I (verN x.vertical e))∧IJ w w w':=by
 obtain⟨ah,ch,eh,_,_,_⟩:=hh.ints;subst eh;have hlen:=hL.len;obtain⟨b,off,ea,hbl,hat⟩:=hh.intAt O;subst ea;have HU:Hid (verN x.vertical e=mixN (gi x.vertical ((e+90) / 10).toNat) (gi x.vertical (min ((e+90) / 10+1) 18).toNat) ((e+90) % 10)):=rfl;obtain⟨i,ei⟩:=Int.eq_ofNat_of_zero_le (show 0≤(e+90) / 10 by omega);rw[ei,Int.toNat_natCast] at HU;have hi:i<19:=O
 obtain⟨j,ej⟩:∃ j:Nat,min ((i:Int)+1) 18=(j:Int):=Int.eq_ofNat_of_zero_le O;rw[ej,Int.toNat_natCast] at HU;have hj:j<19:=O
 have s0:=hat i O;have s1:=hat j O;have q0:=hL.bd i hi;have q1:=hL.bd j hj;have b0:IJ w w (w.alloc (.cells #[F x.name,I x.gain,vh,II (some ⟨b,off,none⟩) x.vertical.length ch] 154)):=(Below.refl _ _).alloc (Nat.le_refl _) _;have f2:(w.alloc (.cells #[F x.name,I x.gain,vh,II (some ⟨b,off,none⟩) x.vertical.length ch] 154)).cell? ⟨w,3,none⟩=some (II (some ⟨b,off,none⟩) x.vertical.length ch):=by simp[go_sem]
 have t0:=(bat b0 b _ hbl).trans s0;have t1:=(bat b0 b _ hbl).trans s1;have u0:0≤(e+90) % 10:=O
 have u1:(e+90) % 10≤9:=O
 have HM:=J (fun W=>mixedLoss_any (gi x.vertical i) (gi x.vertical j) ((e+90) % 10) W q0.1 q0.2 q1.1 q1.2 u0 u1);have k1:(0:Int)≤(i:Int):=O
 have k2:(i:Int)<(x.vertical.length:Int):=O
 have k3:(0:Int)≤(j:Int):=O
 have k4:(j:Int)<(x.vertical.length:Int):=O
 have k5:(i:Int)≤18:=O
 have B0:=J b0;have HLEN:=J hlen;have e2:0≤e+90:=O
 clear hat s0 s1 q0 q1 hh hlen hL b0;go_enter Tryz.func211,Tryz.ntmps211;go_wp2;generalize w.alloc (.cells #[F x.name,I x.gain,vh,II (some ⟨b,off,none⟩) x.vertical.length ch] 154)=W1 at *;have i3:IntKind.i64.wrap ((i:Int)+1)=(i:Int)+1:=IntWalk.i64_in _ O;have i7:IntKind.i64.wrap (e+90)=e+90:=IntWalk.i64_in _ O;have i4:(0:Int)≤(i:Int)+1:=O
 have i6:Int.tmod (e+90) 10=(e+90) % 10:=Int.tmod_eq_emod_of_nonneg O;have hmin:((i:Int)+1<18∧j=i+1)∨((i:Int)+1=18∧j=18)∨(18<(i:Int)+1∧j=18):=O
 clear ej
 rcases hmin with ⟨m1,m2⟩|⟨m1,m2⟩|⟨m1,m2⟩
 ·subst m2
  have m3:((i:Int)+1).toNat=i+1:=O
  have m4:(i:Int)+1<(x.vertical.length:Int):=O
  go_quiet ((go_at_call 245;exact zb5 (HM.out _)))
  clear i3 i6 i7 m3;go_wp2;go_ret;exact⟨by rw[HU.out];rfl,zbc B0.out _⟩
 ·subst m2
  rw[m1] at i3 i4
  go_quiet ((go_at_call 245;exact zb5 (HM.out _)))
  clear i3 i6 i7;go_wp2;go_ret;exact⟨by rw[HU.out];rfl,zbc B0.out _⟩
 ·subst m2
  go_quiet ((go_at_call 245;exact zb5 (HM.out _)))
  clear i3 i6 i7;go_wp2;go_ret;exact⟨by rw[HU.out];rfl,zbc B0.out _⟩
theorem l06Across_any (x:DAntenna) (vh:Value) (angle:Int) (bp op B:Nat) (w:World) (hh:Rd B w (zai x.horizontal) vh) (hB:B≤w.heap.size) (hp:w.cell? ⟨bp,op+2,none⟩=some vh) (hL:Loss x.horizontal 36) :
  Calls Tryz.prog 232 #[.pointer (some ⟨bp,op,none⟩),I angle] w fun e w'=>e=.returned (I (horN x.horizontal angle))∧∃ n,w' = w.drewN n:=by
 obtain⟨ah,ch,eh,_,_,_⟩:=hh.ints;subst eh;have hlen:=hL.len;obtain⟨b,off,ea,hbl,hat⟩:=hh.intAt O;subst ea;have hd:=deg_bd angle;have HU:Hid (horN x.horizontal angle=mixN (gi x.horizontal (degN angle / 10).toNat) (gi x.horizontal ((degN angle / 10+1) % 36).toNat) (degN angle % 10)):=rfl;have HD:=J (ze3 angle w);generalize degN angle=d at *;obtain⟨i,ei⟩:=Int.eq_ofNat_of_zero_le (show 0≤d / 10 by omega);obtain⟨j,ej⟩:=Int.eq_ofNat_of_zero_le (show 0≤(d / 10+1) % 36 by omega);rw[ej,ei,Int.toNat_natCast,Int.toNat_natCast] at HU;rw[ei] at ej;have hi:i<36:=O
 have hj:j<36:=O
 have s0:=hat i O;have s1:=hat j O;have q0:=hL.bd i hi;have q1:=hL.bd j hj;have u0:0≤d % 10:=O
 have u1:d % 10≤9:=O
 have HM:=J (fun W=>l06Mix_any (gi x.horizontal i) (gi x.horizontal j) (d % 10) W q0.1 q0.2 q1.1 q1.2 u0 u1);have k1:(0:Int)≤(i:Int):=O
 have k2:(i:Int)<(x.horizontal.length:Int):=O
 have k3:(0:Int)≤(j:Int):=O
 have k4:(j:Int)<(x.horizontal.length:Int):=O
 have k5:(i:Int)≤35:=O
 clear hat q0 q1 hh hlen hL;go_enter Tryz.func232,Tryz.ntmps232;go_wp2_with (go_at_call 250;refine (HD.out).mono ?_;rintro e w1 ⟨rfl,rfl⟩);have i3:IntKind.i64.wrap ((i:Int)+1)=(i:Int)+1:=IntWalk.i64_in _ O;have i4:(0:Int)≤(i:Int)+1:=O
 have i5:Int.tmod ((i:Int)+1) 36=(j:Int):=by rw[Int.tmod_eq_emod_of_nonneg O];exact ej
 have i6:Int.tmod d 10=d % 10:=Int.tmod_eq_emod_of_nonneg O
 go_quiet ((go_at_call 256;exact zb5 (HM.out _)))
 clear i3 i5 i6;go_wp2;go_ret;exact⟨by rw[HU.out];rfl,_,rfl⟩
theorem l06Up_any (x:DAntenna) (vv:Value) (e:Int) (bp op B:Nat) (w:World) (hh:Rd B w (zai x.vertical) vv) (hB:B≤w.heap.size) (hp:w.cell? ⟨bp,op+3,none⟩=some vv) (hL:Loss x.vertical 19) (e0:-90≤e) (e1:e≤90) :
  Calls Tryz.prog 233 #[.pointer (some ⟨bp,op,none⟩),I e] w fun r w'=>r=.returned (I (verN x.vertical e))∧∃ n,w' = w.drewN n:=by
 obtain⟨ah,ch,eh,_,_,_⟩:=hh.ints;subst eh;have hlen:=hL.len;obtain⟨b,off,ea,hbl,hat⟩:=hh.intAt O;subst ea
 by_cases h90:e=90
 ·subst h90
  have s0:=hat 18 O;have HU:Hid (verN x.vertical 90=gi x.vertical 18):=mix_same _;have k2:(18:Int)<(x.vertical.length:Int):=O
  have k3:18<x.vertical.length:=O
  clear hat hh hL hlen;go_enter Tryz.func233,Tryz.ntmps233;go_wp2;go_ret;exact⟨by rw[HU.out];rfl,0,rfl⟩
 ·have hne:(e+90 == 180)=false:=by simp<;>omega
  have HU:Hid (verN x.vertical e=mixN (gi x.vertical ((e+90) / 10).toNat) (gi x.vertical (min ((e+90) / 10+1) 18).toNat) ((e+90) % 10)):=rfl;obtain⟨i,ei⟩:=Int.eq_ofNat_of_zero_le (show 0≤(e+90) / 10 by omega);have em:min ((e+90) / 10+1) 18=((i+1:Nat):Int):=O
  rw[em,ei,Int.toNat_natCast,Int.toNat_natCast] at HU;have hi:i<18:=O
  have s0:=hat i O;have s1:=hat (i+1) O;have q0:=hL.bd i O;have q1:=hL.bd (i+1) O;have u0:0≤(e+90) % 10:=O
  have u1:(e+90) % 10≤9:=O
  have HM:=J (fun W=>l06Mix_any (gi x.vertical i) (gi x.vertical (i+1)) ((e+90) % 10) W q0.1 q0.2 q1.1 q1.2 u0 u1);have k1:(0:Int)≤(i:Int):=O
  have k2:(i:Int)<(x.vertical.length:Int):=O
  have k5:(i:Int)≤17:=O
  have m4:(i:Int)+1<(x.vertical.length:Int):=O
  have e2:0≤e+90:=O
  clear hat q0 q1 hh hlen hL em h90;go_enter Tryz.func233,Tryz.ntmps233;go_wp2;have i3:IntKind.i64.wrap ((i:Int)+1)=(i:Int)+1:=IntWalk.i64_in _ O;have i4:(0:Int)≤(i:Int)+1:=O
  have i6:Int.tmod (e+90) 10=(e+90) % 10:=Int.tmod_eq_emod_of_nonneg O;have i8:Int.tdiv (e+90) 10=(i:Int):=by rw[Int.tdiv_eq_ediv_of_nonneg O];exact ei
  have i9:IntKind.i64.wrap (i:Int)=(i:Int):=IntWalk.i64_in _ O;have m3:((i:Int)+1).toNat=i+1:=O
  go_quiet ((go_at_call 256;exact zb5 (HM.out _)))
  clear i3 i6 i8 i9 m3;go_wp2;go_ret;exact⟨by rw[HU.out];rfl,_,rfl⟩
set_option maxHeartbeats 8000000
set_option maxRecDepth 100000
def upN (e tilt:Int):Int:=min (max (e+tilt) (-90)) 90
def towN (a:DAntenna) (az tilt b e:Int):Int:=a.gain-min (horN a.horizontal (b-az)+verN a.vertical (upN e tilt)) 60000
theorem up_bd (e tilt:Int):-90≤upN e tilt∧upN e tilt≤90:=by unfold upN;omega
theorem toward_any (x:DAntenna) (vh vv:Value) (az tilt b e:Int) (w:World) (hh:Rd w w (zai x.horizontal) vh) (hv:Rd w w (zai x.vertical) vv) (hL:Loss x.horizontal 36) (hM:Loss x.vertical 19)
  (g0:-60000≤x.gain) (g1:x.gain≤60000) (a0:0≤az) (a1:az≤359) (t0:0≤tilt) (t1:tilt≤30) (b0:0≤b) (b1:b≤359) (e0:-90≤e) (e1:e≤90) :
  Calls Tryz.prog 166 #[.agg #[F x.name,I x.gain,vh,vv],I az,I tilt,I b,I e] w fun r w'=>r=.returned (I (towN x az tilt b e))∧IJ w w w':=by
 obtain⟨ah,ch,eh,_,_,_⟩:=hh.ints;obtain⟨av,cv,ev,_,_,_⟩:=hv.ints;subst eh ev;have hu:=up_bd e tilt;have HH:Hid (∀ W:World,IJ w w W→Calls Tryz.prog 210 #[.agg #[F x.name,I x.gain,II ah x.horizontal.length ch,II av x.vertical.length cv],I (b-az)] W fun r w'=>r=.returned (I (horN x.horizontal (b-az)))∧IJ W W w'):=fun W hW=>horizontal_any x _ _ (b-az) W ((hh.below hW).mono hW.size) hL
 have HV:Hid (∀ W:World,IJ w w W→Calls Tryz.prog 211 #[.agg #[F x.name,I x.gain,II ah x.horizontal.length ch,II av x.vertical.length cv],I (upN e tilt)] W fun r w'=>r=.returned (I (verN x.vertical (upN e tilt)))∧IJ W W w'):=fun W hW=>vertical_any x _ _ (upN e tilt) W ((hv.below hW).mono hW.size) hM hu.1 hu.2
 have hbd:=hor_bd hL (b-az);have vbd:=ver_bd hM (upN e tilt) hu.1 hu.2;have HT:Hid (towN x az tilt b e=x.gain-min (horN x.horizontal (b-az)+verN x.vertical (upN e tilt)) 60000):=rfl;have hup:(e+tilt = -90∧upN e tilt = -90)∨(-90<e+tilt∧e+tilt<90∧upN e tilt=e+tilt)∨(e+tilt=90∧upN e tilt=90)∨(90<e+tilt∧upN e tilt=90):=by unfold upN;omega
 generalize horN x.horizontal (b-az)=h at *;generalize verN x.vertical (upN e tilt)=v at *;have bb:IJ w w (w.alloc (.cells #[F x.name,I x.gain,II ah x.horizontal.length ch,II av x.vertical.length cv] 154)):=(Below.refl _ _).alloc (Nat.le_refl _) _;have f0:(w.alloc (.cells #[F x.name,I x.gain,II ah x.horizontal.length ch,II av x.vertical.length cv] 154)).cell? ⟨w,0,none⟩=some (F x.name):=by simp[go_sem]
 have f1:(w.alloc (.cells #[F x.name,I x.gain,II ah x.horizontal.length ch,II av x.vertical.length cv] 154)).cell? ⟨w,1,none⟩=some (I x.gain):=by simp[go_sem]
 have f2:(w.alloc (.cells #[F x.name,I x.gain,II ah x.horizontal.length ch,II av x.vertical.length cv] 154)).cell? ⟨w,2,none⟩=some (II ah x.horizontal.length ch):=by simp[go_sem]
 have f3:(w.alloc (.cells #[F x.name,I x.gain,II ah x.horizontal.length ch,II av x.vertical.length cv] 154)).cell? ⟨w,3,none⟩=some (II av x.vertical.length cv):=by simp[go_sem]
 have fz:w.heap.size<(w.alloc (.cells #[F x.name,I x.gain,II ah x.horizontal.length ch,II av x.vertical.length cv] 154)).heap.size:=by simp
 clear hh hv hL hM;go_enter Tryz.func166,Tryz.ntmps166;go_wp2;generalize w.alloc (.cells #[F x.name,I x.gain,II ah x.horizontal.length ch,II av x.vertical.length cv] 154)=W1 at *;have BB:=J bb;clear bb;have oX:=zal (w0:=W1) fz;have j1:IntKind.i64.wrap (b-az)=b-az:=IntWalk.i64_in _ O;have j2:IntKind.i64.wrap (e+tilt)=e+tilt:=IntWalk.i64_in _ O;have j3:IntKind.i64.wrap (h+v)=h+v:=IntWalk.i64_in _ O;obtain⟨h0,h1⟩:=hbd;obtain⟨v0,v1⟩:=vbd;have HB1:=J h1
 rcases hup with ⟨m1,m2⟩|⟨m1,m3,m2⟩|⟨m1,m2⟩|⟨m1,m2⟩
 all_goals
  rw[m2] at HV;clear m2 hu;refine zad W1.heap.size W1 (Below.refl _ _) OJ OJ ?_
  repeat (go_big_quiet_step (first|(go_at_call 210;exact zaj (Nat.le_refl _) (HH.out _ (BB.out.trans ((zaa _ _ _).mono BB.out.size))))|(go_at_call 211;exact zaj (Nat.le_refl _) (HV.out _ (BB.out.trans ((zaa _ _ _).mono BB.out.size))))))
  refine wpQuiet_nil ?_;rintro _ ⟨X,rfl⟩;have hX:=zaa W1.heap.size W1 X;have c1:=(oX X 1).trans f1;clear oX j1 j2 j3;generalize over W1.heap.size W1 X=w2 at *;have BE:=J (BB.out.trans (hX.mono BB.out.size));clear hX
  rcases Int.lt_trichotomy (h+v) 60000 with hm|hm|hm
  ·have HM:Hid (min (h+v) 60000=h+v):=by show _=_;omega
   go_wp2;go_ret;exact⟨by rw[HT.out,HM.out];rfl,BE.out⟩
  ·have HM:Hid (min (h+v) 60000=60000):=by show _=_;omega
   rw[hm];go_wp2;go_ret;exact⟨by rw[HT.out,HM.out];rfl,BE.out⟩
  ·have HM:Hid (min (h+v) 60000=60000):=by show _=_;omega
   go_wp2;go_ret;exact⟨by rw[HT.out,HM.out];rfl,BE.out⟩
theorem ze6 (a b:Int) (w:World):Calls Tryz.prog 231 #[I a,I b] w fun e w'=>e=.returned (I (min a b))∧w=w':=by
 by_cases h:a<b
 ·have e:min a b=a:=O
  rw[e];clear e;go_enter Tryz.func231,Tryz.ntmps231;go_wp2;go_ret;exact⟨rfl,rfl⟩
 ·have e:min a b=b:=O
  rw[e];clear e;go_enter Tryz.func231,Tryz.ntmps231;go_wp2;go_ret;exact⟨rfl,rfl⟩
theorem l00MaxE_any (a b:Int) (w:World):Calls Tryz.prog 94 #[I a,I b] w fun e w'=>e=.returned (I (max a b))∧w=w':=by
 by_cases h:b<a
 ·have e:max a b=a:=O
  rw[e];clear e;go_enter Tryz.func94,Tryz.ntmps94;go_wp2;go_ret;exact⟨rfl,rfl⟩
 ·have e:max a b=b:=O
  rw[e];clear e;go_enter Tryz.func94,Tryz.ntmps94;go_wp2;go_ret;exact⟨rfl,rfl⟩
theorem quiet_drawn {P:Program} {f:FuncId} {args:Array Value} {w:World} {n:Nat} {v:Value}
  (h:Calls P f args (w.drewN n) fun e w'=>e=.returned v∧∃ m,w' = (w.drewN n).drewN m):Calls P f args (w.drewN n) fun e w''=>e=.returned v∧∃ m,w'' = w.drewN m:=Calls.quiet_of h
theorem l06Toward_any (x:DAntenna) (vh vv:Value) (az tilt b e:Int) (bp op B:Nat) (w:World) (hh:Rd B w (zai x.horizontal) vh) (hv:Rd B w (zai x.vertical) vv) (hB:B≤w.heap.size) (p1:w.cell? ⟨bp,op+1,none⟩=some (I x.gain)) (p2:w.cell? ⟨bp,op+2,none⟩=some vh) (p3:w.cell? ⟨bp,op+3,none⟩=some vv) (hL:Loss x.horizontal 36) (hM:Loss x.vertical 19)
  (g0:-60000≤x.gain) (g1:x.gain≤60000) (a0:0≤az) (a1:az≤359) (t0:0≤tilt) (t1:tilt≤30) (b0:0≤b) (b1:b≤359) (e0:-90≤e) (e1:e≤90) :
  Calls Tryz.prog 183 #[.pointer (some ⟨bp,op,none⟩),I az,I tilt,I b,I e] w fun r w'=>r=.returned (I (towN x az tilt b e))∧∃ n,w' = w.drewN n:=by
 have hu:=up_bd e tilt;have HH:Hid (∀ n,Calls Tryz.prog 232 #[.pointer (some ⟨bp,op,none⟩),I (b-az)] (w.drewN n) fun r w'=>r=.returned (I (horN x.horizontal (b-az)))∧∃ m,w' = (w.drewN n).drewN m):=fun n=>l06Across_any x vh (b-az) bp op B (w.drewN n) (hh.drewN n) hB p2 hL
 have HV:Hid (∀ n,Calls Tryz.prog 233 #[.pointer (some ⟨bp,op,none⟩),I (upN e tilt)] (w.drewN n) fun r w'=>r=.returned (I (verN x.vertical (upN e tilt)))∧∃ m,w' = (w.drewN n).drewN m):=fun n=>l06Up_any x vv (upN e tilt) bp op B (w.drewN n) (hv.drewN n) hB p3 hM hu.1 hu.2
 have hbd:=hor_bd hL (b-az);have vbd:=ver_bd hM (upN e tilt) hu.1 hu.2;have HT:Hid (towN x az tilt b e=x.gain-min 60000 (horN x.horizontal (b-az)+verN x.vertical (upN e tilt))):=by show _=_;unfold towN;rw[Int.min_comm]
 have hup:max (-90) (min 90 (e+tilt))=upN e tilt:=by unfold upN;omega
 generalize horN x.horizontal (b-az)=h at *;generalize verN x.vertical (upN e tilt)=v at *;generalize upN e tilt=U at *;obtain⟨h0,h1⟩:=hbd;obtain⟨v0,v1⟩:=vbd;obtain⟨u0,u1⟩:=hu;have HX:=J hup;have mb:0≤min 60000 (h+v)∧min 60000 (h+v)≤60000:=O
 obtain⟨mb0,mb1⟩:=mb;clear hh hv hL hM p2 p3 hup;go_enter Tryz.func183,Tryz.ntmps183;go_wp2_with (first|(go_at_call 231;refine (ze6 _ _ _).mono ?_;rintro e' w1 ⟨rfl,rfl⟩)|(go_at_call 94;refine (l00MaxE_any _ _ _).mono ?_;rintro e' w1 ⟨rfl,rfl⟩;rw[HX.out]));have j1:IntKind.i64.wrap (b-az)=b-az:=IntWalk.i64_in _ O;have j3:IntKind.i64.wrap (h+v)=h+v:=IntWalk.i64_in _ O;have j4:IntKind.i64.wrap (x.gain-min 60000 (h+v))=x.gain-min 60000 (h+v):=IntWalk.i64_in _ O
 go_quiet (first|(go_at_call 232;exact quiet_drawn (HH.out _))|(go_at_call 233;exact quiet_drawn (HV.out _))|(go_at_call 231;exact zb5 (ze6 _ _ _)))
 clear j1 j3 j4;go_wp2;go_ret;exact⟨by rw[HT.out];rfl,_,rfl⟩
end Go.Proofs.YtgmapjgodibchaaGreatDoor
