/- Contract: the network that the reference draws (l14Draw): a valid one. Condition: a place in the source that is not too great. -/
import Derived.Test.YtpakghepnahooaaGreatDoorDw6
import Derived.Test.YtpakghepnahooaaGreatDoorNetSSector
set_option linter.unusedVariables false
set_option linter.unusedSimpArgs false
namespace Go.Proofs.YtpakghepnahooaaGreatDoor
theorem Q2f {p:Prop} (h:p:=by rw[bkO rfl (p:=⟨y,3,none⟩) (by show x≠y;omega) (IZ a3 X.1.radios.length c3),bkO rfl (p:=⟨y,2,none⟩) (by show x≠y;omega) (IZ a2 X.1.antennas.length c2),bkO rfl (p:=⟨y,1,none⟩) (by show x≠y;omega) (IZ a1 X.1.sectors.length c1),bkO rfl (p:=⟨y,0,none⟩) (by show x≠y;omega) (IZ a0 X.1.sites.length c0)]):p:=h
theorem Q2g {p:Prop} (h:p:=by have:=bkS (bkS (bkS (bkS (KY.out) 0 (IZ a0 X.1.sites.length c0)) 1 (IZ a1 X.1.sectors.length c1)) 2 (IZ a2 X.1.antennas.length c2)) 3 (IZ a3 X.1.radios.length c3);show _=_;simpa using this):p:=h
theorem Q3w {p:Prop} (h:p:=by have:=RH0.out;omega):p:=h
theorem Q3x {p:Prop} (h:p:=by have:=RP0.out;omega):p:=h
theorem Q0n {p:Prop} (h:p:=by
 obtain⟨y,X,u0,u1,u2,u3,lj,hj,rfl,rfl,hok,hlj,hjw,hky,hrp,hs0,hs1,hrg⟩:=hcut
 have HX:=IJ hok
 have RP:=IJ hrp
 have HS0:=IJ hs0
 have HS1:=IJ hs1
 have HJ:=IJ hjw
 have HL:=IJ hlj
 clear hok hjw hrp hlj hs0 hs1 RA RH0 RP0 rh0 rp0
 have RG:=IJ hrg
 clear hrg
 generalize wc=w9 at *
 obtain⟨xr,xc⟩:=X
 by_cases hc:xc=0
 ·subst hc
  obtain⟨B0,D0,B1,D1,B2,D2,B3,D3,rfl,rfl,rfl,rfl⟩:=RP.out.form;obtain⟨t0,t1,t2,t3,_⟩:=bz4 hky;obtain⟨s0,s1,s2,s3,g⟩:=bz4 RG.out.hp;clear hky;go_wp2;go_roundw
  case rel=>exact⟨m-1,xr,_,_,_,_,lj,hj,II,by go_num,(RG.out.put (HX.out rfl) HL.out HJ.out RP.out HS0.out HS1.out).more II⟩
  case measure=>simp only[intOf];omega
 ·clear hky
  go_wp2;go_roundw
  case rel=>exact⟨m-1,n,_,_,_,_,lo,hi,II,by go_num,RG.out.more II⟩
  case measure=>simp only[intOf];omega):p:=h
set_option maxHeartbeats 16000000
set_option maxRecDepth 100000
open Go.RowKit
theorem Reads.freshM (w:World) (E size m:Nat) (vs:List Value) (hl:vs.length=m*size):Reads (w.alloc (.cells vs.toArray E)) (w.heap.size+1) size (some ⟨w,0,none⟩) m vs:=by
 refine⟨hl,fun _=>⟨⟨w,0,none⟩,rfl,by show w.heap.size<w.heap.size+1;omega,fun j u hu=>?_⟩⟩;exact Q1a
theorem wpList_appendM {P:Program} {ops:Array Oper} {rest:List Oper} {o:Oper} {a:Act} {Q:Exit→Act→World→Prop} {w:World} (hgd:o.guard=none) (s x:Operand) (t:TypeId)
  (ho:o.op=.call { callee:=.builtin .append,args:=#[s,x],argTypes:=#[t,t] })
  (base:Nat) (e:TypeId) (i:TypeInfo) (z:Value) (size bytes:Nat) (ht:P.underlying t=some (.slice e)) (hi:P.info? e=some i) (hz:i.zero=some z)
  (hsize:i.size=size) (hby:i.bytes=bytes) (hzs:z.cells.size=size) (hsz:0<size)
  (v:Value) (n m:Nat) (ts:List Tr) (f:List Nat) (hs:a.eval s=v) (G:Grow w base e size v n ts f)
  (vs:List Value) (us:List Tr) (g:List Nat) (hl:vs.length=m*size) (c:Nat) (hx:a.eval x=IZ (some ⟨w,0,none⟩) m c) (h1:∀ u ∈ vs,u.oneCell' = true)
  (hv:RepV w us vs g) (hg:g.Nodup) (hgo:Free w g) (lo:Nat) (hin:In lo w f) (hgin:In lo w g) (hgf:∀ x ∈ g,x ∉ f) (hgv:∀ b,v.ownBlock=some b→b ∉ g)
  (h63:n+m≤maxLen) (hbytes:(n+m)*bytes≤140737488355328) (hbase:base≤w.heap.size)
  (h:∀ v' w',Grown w w' base e size v v' (n+m) (ts++us) (f++g)→wpList P ops Q rest (a.put o.dst v') w'):wpList P ops Q (o::rest) a (w.alloc (.cells vs.toArray e)):=by
 obtain⟨xs,hxo,hxr⟩:=G.own;have hb2:OI w w (w.alloc (.cells vs.toArray e)):=(Below.refl _ _).alloc (Nat.le_refl _) _;have HX2:=zap hxo (w':=w.alloc (.cells vs.toArray e)) (fun g hg=>hb2.block g (G.block hg).2);have G2:=G.below hin hb2;have hv2:=hv.frame (w':=w.alloc (.cells vs.toArray e)) (fun b hb=>hb2.block b (hgin b hb).2);refine zb1 _ hgd s x t ho base e i z size bytes ht hi hz hsize hby hzs hsz v n xs hs HX2 (w.heap.size+1) (some ⟨w,0,none⟩) m c vs hx (Reads.freshM w e size m vs hl) h1 h63 hbytes Q41 ?_;exact Q0u
def NwP (lo hi:Nat) (w:World) (n:DNetwork) (v0 v1 v2 v3:Value):Prop:=∃ fp,OwnV w n.tr [v0,v1,v2,v3] fp∧In lo hi fp
theorem NwP.frame {lo hi:Nat} {w w':World} {n:DNetwork} {v0 v1 v2 v3:Value} (h:NwP lo hi w n v0 v1 v2 v3) (hf:∀ b,lo≤b→b<hi→w'.heap[b]? = w.heap[b]?):NwP lo hi w' n v0 v1 v2 v3:=by
 obtain⟨fp,h1,h2⟩:=h;exact⟨fp,h1.frame (fun b hb=>hf b (h2 b hb).1 (h2 b hb).2),h2⟩
theorem NwP.mono {lo hi lo' hi':Nat} {w:World} {n:DNetwork} {v0 v1 v2 v3:Value} (h:NwP lo hi w n v0 v1 v2 v3) (h1:lo'≤lo) (h2:hi≤hi'):NwP lo' hi' w n v0 v1 v2 v3:=by
 obtain⟨fp,g1,g2⟩:=h;exact⟨fp,g1,g2.mono h1 h2⟩
theorem NwP.rd {lo hi:Nat} {w:World} {n:DNetwork} {v0 v1 v2 v3:Value} (h:NwP lo hi w n v0 v1 v2 v3):Rd hi w (DSite.sT n.sites) v0∧Rd hi w (DSector.sT n.sectors) v1∧Rd hi w (DAntenna.sT n.antennas) v2∧Rd hi w (DRadio.sT n.radios) v3:=by
 obtain⟨fp,h1,h2⟩:=h;obtain⟨a,b,c,d,e,r1,r2,r3,r4⟩:=DNetwork.opn (h1.rd h2);injection e with e1 e2;injection e2 with e2 e3;injection e3 with e3 e4;injection e4 with e4 _;subst e1 e2 e3 e4;exact⟨r1,r2,r3,r4⟩
theorem NwP.form {lo hi:Nat} {w:World} {n:DNetwork} {v0 v1 v2 v3:Value} (h:NwP lo hi w n v0 v1 v2 v3):∃ A0 C0 A1 C1 A2 C2 A3 C3,v0=IZ A0 n.sites.length C0∧v1=IZ A1 n.sectors.length C1∧v2=IZ A2 n.antennas.length C2∧v3=IZ A3 n.radios.length C3:=by
 obtain⟨A0,C0,e0,_,_,_⟩:=DSite.rd h.rd.1;obtain⟨A1,C1,e1,_,_,_⟩:=DSector.rd h.rd.2.1;obtain⟨A2,C2,e2,_,_,_⟩:=DAntenna.rd h.rd.2.2.1;obtain⟨A3,C3,e3,_,_,_⟩:=DRadio.rd h.rd.2.2.2;exact⟨A0,C0,A1,C1,A2,C2,A3,C3,e0,e1,e2,e3⟩
structure NetD (n:DNetwork):Prop where
 ok:netB n=true
 ant:n.antennas.map DAntenna.name = [⟨#[98,101,97,109]⟩,⟨#[111,109,110,105]⟩]
 rad:n.radios.map DRadio.name = [⟨#[98,105,103]⟩,⟨#[115,109,97,108,108]⟩]
def DrNet (b k m:Nat) (w:World) (e:Ending) (w':World):Prop:=∃ (n:DNetwork) (v0 v1 v2 v3:Value),NetD n∧e=.returned (.agg #[v0,v1,v2,v3])∧NwP w.heap.size w'.heap.size w' n v0 v1 v2 v3∧SpB w' w.heap.size w'.heap.size 119 4 v0 n.sites.length∧SpB w' w.heap.size w'.heap.size 43 9 v1 n.sectors.length∧SrcQ b k m w w'
def DrBase (b k m:Nat) (w:World) (e:Ending) (w':World):Prop:=∃ (la:List DAntenna) (lr:List DRadio) (v2 v3:Value),NetD ⟨[],[],la,lr⟩∧e=.returned (.agg #[IZ none 0 0,IZ none 0 0,v2,v3])∧NwP w.heap.size w'.heap.size w' ⟨[],[],la,lr⟩ (IZ none 0 0) (IZ none 0 0) v2 v3∧SrcQ b k m w w'
theorem base_ok {A O:DAntenna} {B S:DRadio} (hA:antB A=true) (hO:antB O=true) (hB:radB B=true) (hS:radB S=true) (nA:A.name=⟨#[98,101,97,109]⟩) (nO:O.name=⟨#[111,109,110,105]⟩) (nB:B.name=⟨#[98,105,103]⟩) (nS:S.name=⟨#[115,109,97,108,108]⟩):NetD ⟨[],[],[A,O],[B,S]⟩:=by
 refine⟨?_,by simp[nA,nO],by simp[nB,nS]⟩
 have r1:zaz antB za2 [A,O]=true:=ze4 (l:=[A]) (ze4 (l:=[]) rfl hA (fun y hy=>by simp at hy)) hO (fun y hy=>by
  obtain rfl:A=y:=by simpa using hy
  unfold za2;rw[nA,nO]
  decide +kernel)
 have r2:zaz radB zbs [B,S]=true:=ze4 (l:=[B]) (ze4 (l:=[]) rfl hB (fun y hy=>by simp at hy)) hS (fun y hy=>by
  obtain rfl:B=y:=by simpa using hy
  unfold zbs;rw[nB,nS]
  decide +kernel)
 unfold netB;rw[r1,r2]
 rfl
theorem radB_name {x:DRadio} (h:radB x=true) {s:ByteArray} (hs:za8 s=true):radB { x with name:=s } = true:=by
 unfold radB at h ⊢;simp only[Bool.and_eq_true] at h ⊢;exact⟨hs,h.2⟩
theorem loss_zero {m:Nat} {l:List Int} (h:∀ (i:Nat) (hi:i<l.length),l[i]=0):LossP m l:=fun i hi=>by
 rw[h i hi]
 exact⟨II,fun _=>rfl⟩
structure BsS (b k c:Nat) (w0 w:World) (r p hi T:Nat) (v:Value) (t:Tr):Prop where
 src:∃ k',k≤k'∧k'≤k+c∧Src w b k'
 chg:Chg [b] w0 w
 hr:w.heap[r]? = some (.cells () T (0,0))
 hp:w.heap[p]? = some (.cells #[IZ none 0 0,IZ none 0 0,v,IZ none 0 0] T (0,0))
 bl:b<w0.heap.size
 lr:w0.heap.size≤r
 rp:r<p
 hh:hi≤w.heap.size
 row:∃ fp,Own w t v fp∧In (p+1) hi fp
section
variable {b k c r p hi T:Nat} {w0 w w':World} {v:Value} {t:Tr}
theorem BsS.below (h:BsS b k c w0 w r p hi T v t) (hb:OI w w w'):BsS b k c w0 w' r p hi T v t:=by
 obtain⟨k',h1,h2,S⟩:=h.src;obtain⟨fp,o,i⟩:=h.row;have:=h.hh;have:=hb.size;exact⟨⟨k',h1,h2,S.below S.lt hb⟩,h.chg.trans (Chg.of_below hb),bkB h.hr hb (zcv h.hr),bkB h.hp hb (zcv h.hp),h.bl,h.lr,h.rp,II,fp,o.frame (fun x hx=>hb.block x (by have:=(i x hx).2;omega)),i⟩
theorem BsS.call {k1 d:Nat} (h:BsS b k c w0 w r p hi T v t) (h1:k≤k1) (h2:k1≤k+c) (g:SrcQ b k1 d w w'):BsS b k (c+d) w0 w' r p hi T v t:=by
 obtain⟨k2,g1,g2,S,C⟩:=g;obtain⟨fp,o,i⟩:=h.row;have:=h.bl;have:=h.lr;have:=h.rp;have:=h.hh;have:=C.size;exact⟨⟨k2,II,II,S⟩,h.chg.trans C,(C.block _ (zcv h.hr) Q41).trans h.hr,(C.block _ (zcv h.hp) Q41).trans h.hp,h.bl,h.lr,h.rp,II,fp,o.frame (fun x hx=>C.block x (by have:=(i x hx).2;omega) (by have:=(i x hx).1;simp<;>omega)),i⟩
theorem BsS.setO (h:BsS b k c w0 w r p hi T v t) {y:Nat} (hy:hi≤y) (hpy:p<y) (j:Nat) (u:Value):BsS b k c w0 (w.setCell ⟨y,j,none⟩ u) r p hi T v t:=by
 obtain⟨k',h1,h2,S⟩:=h.src;obtain⟨fp,o,i⟩:=h.row;have:=h.bl;have:=h.lr;have:=h.rp;have hb:OI y w (w.setCell ⟨y,j,none⟩ u):=(Below.refl y w).setCell (p:=⟨y,j,none⟩) (Nat.le_refl _) u;exact⟨⟨k',h1,h2,S.below II hb⟩,Chg.thenB' h.chg ⟨hb.os,hb.tape,hb.output,hb.size,fun x hx=>bkO rfl (p:=⟨y,j,none⟩) Q40 u⟩ |> fun _=>⟨h.chg.os,h.chg.tape,h.chg.output,by rw[zac];exact h.chg.size,fun x hx hn=>(hb.block x II).trans (h.chg.block x hx hn)⟩,(hb.block r II).trans h.hr,(hb.block p II).trans h.hp,h.bl,h.lr,h.rp,by rw[zac];exact h.hh,fp,o.frame (fun x hx=>hb.block x (by have:=(i x hx).2;omega)),i⟩
end
theorem radio_modes {w:World} {x:DRadio} {s0:Value} {s1 s2 s3 s4 m:Value} {fp:List Nat} (h:OwnV w x.tr [s0,s1,s2,s3,s4,m] fp):∃ fm,Own w (DMode.sT x.modes) m fm∧∀ y ∈ fm,y ∈ fp:=by
 obtain⟨f0,g0,e0,_,u0,_⟩:=OwnV.uncons h;obtain⟨f1,g1,e1,_,u1,_⟩:=OwnV.uncons u0;obtain⟨f2,g2,e2,_,u2,_⟩:=OwnV.uncons u1;obtain⟨f3,g3,e3,_,u3,_⟩:=OwnV.uncons u2;obtain⟨f4,g4,e4,_,u4,_⟩:=OwnV.uncons u3;obtain⟨f5,g5,e5,o5,_,_⟩:=OwnV.uncons u4;exact⟨f5,o5,fun y hy=>by rw[e0,e1,e2,e3,e4,e5];simp[hy]⟩
theorem own_range {w w':World} {t:Tr} {v:Value} {fp:List Nat} {lo hi:Nat} (h:Own w t v fp) (hi':In lo hi fp) (hf:∀ x,lo≤x→x<hi→w'.heap[x]? = w.heap[x]?):Own w' t v fp:=h.frame (fun x hx=>hf x (hi' x hx).1 (hi' x hx).2)
theorem l14Base_new (b k:Nat) (w:World) (h:Src w b k) (hk:k≤1099511500000):Calls Tryz.prog 90 #[.pointer (some ⟨b,0,none⟩)] w (DrBase b k 120 w):=by
 have yb:=h.lt;have HS:=IJ h;clear h;obtain⟨iA,hA0,hA1,hA2,hA3⟩:=info_parts infoAntenna;obtain⟨iR,hR0,hR1,hR2,hR3⟩:=info_parts infoRadio;have nb:za8 ⟨#[98,101,97,109]⟩=true:=by first|rfl|decide
 have no:za8 ⟨#[111,109,110,105]⟩=true:=by first|rfl|decide
 have ng:za8 ⟨#[98,105,103]⟩=true:=by first|rfl|decide
 have nl:za8 ⟨#[115,109,97,108,108]⟩=true:=by first|rfl|decide
 have HNM:=IJ (And.intro nb (And.intro no (And.intro ng nl)));clear nb no ng nl;go_enter Tryz.func90,Tryz.ntmps90;go_upto_region 2 with (fail);obtain⟨W0,hW0,b0,z0,k0,k1⟩:=zdv w () 32 () 32;rw[hW0];clear hW0;obtain⟨r,hr⟩:∃ r,r=w.heap.size:=⟨_,rfl⟩
 obtain⟨p,hp⟩:∃ p,p=w.heap.size+1:=⟨_,rfl⟩
 rw[← hr] at k0;rw[← hp] at k1;rw[← hp,← hr];have HK0:=IJ k0;have HP0:=IJ k1;have HS0:=IJ (HS.out.below HS.out.lt b0);have HC0:Hid (Chg [b] w W0):=Chg.of_below b0;have wr_:w.heap.size≤r:=II
 have rp:r<p:=II
 have pW:p<W0.heap.size:=II
 clear b0 k0 k1 hr hp z0 HS;have HPd:Hid (W0.drew.heap[p]? = _):=HP0.out;have HKd:Hid (W0.drew.heap[r]? = _):=HK0.out;have HSd:=IJ (HS0.out.drewN 1);have HCd:Hid (Chg [b] w W0.drew):=HC0.out.drew;have zd:W0.heap.size≤W0.drew.heap.size:=Nat.le_refl _;refine zbj 4 [(0,true),(1,true),(2,false),(3,false)] (fun W=>W.cell? ⟨p,2,none⟩=some (IZ none 0 0)) JI JI (bkC HPd.out 2 rfl) (fun hHeld=>?_);have HSd2:Hid (Src W0.drew b k):=⟨HSd.out.code,HSd.out.at_,HSd.out.seed,HSd.out.open_,HSd.out.lt⟩
 generalize W0.drew=Y0 at *;clear hHeld HP0 HK0 HS0 HC0 HSd
 iterate 2 (refine zaj (v:=?_) rfl (fun _ _ _ h=>h) ?_ ?_;rotate_left;focus (intro W hSW;(try dsimp only at hSW);(go_simp<;>with_reducible rfl));(try simp only[Act.put,OO,OJ,OQ]))
 refine zbd rfl (fun K hK=>?_);go_simp;refine (l06Beam_any ⟨#[98,101,97,109]⟩ 15000 65 10 _ II II II II).mono ?_;rintro e w1 ⟨x1,a2,c2,a3,c3,fp1,hx1,rfl,hb,ov,iv⟩;refine hK.out _ _ (bkC (bkB HPd.out hb II) 2 rfl) ?_;clear hK K
 (try simp only[Act.put,OO,OJ,OQ])
 have HP1:=IJ (bkB HPd.out hb II);have HK1:=IJ (bkB HKd.out hb II);have HS1:=IJ (HSd2.out.below HSd2.out.lt hb);have HC1:Hid (Chg [b] w w1):=HCd.out.trans (Chg.of_below hb);have HX1:=IJ hx1;have OV1:=IJ ov;have IV1:=IJ (iv.mono zd (Nat.le_refl _));have z1:=hb.size;clear hx1 ov iv hb HPd HKd HSd2 HCd;refine zbd rfl (fun K hK=>?_);go_simp;refine hK.out _ _ (bkC (bkA HP1.out II (.cells (x1,a2,c2,a3,c3) 121)) 2 rfl) ?_;clear hK K
 (try simp only[Act.put,OO,OJ,OQ])
 refine zcp ?_;simp only[List.drop_succ_cons,List.drop_zero];refine zax rfl (.tmp 10) (.tmp 12) _ rfl W0.heap.size 121 iA _ 4 72 Tryz.underlying29 hA0 hA1 hA2 hA3 rfl II (IZ none 0 0) 0 [] [] rfl Grow.nil [IQ x1.name,J x1.gain,IZ a2 x1.horizontal.length c2,IZ a3 x1.vertical.length c3] x1.tr fp1 rfl 1 rfl (fun u hu=>by simp only[List.mem_cons,List.not_mem_nil,or_false] at hu;rcases hu with rfl|rfl|rfl|rfl<;>rfl) OV1.out.rep OV1.out.nd OV1.out.free W0.heap.size In.nil IV1.out (fun y _ h2=>by simp at h2) (fun y hy=>by simp[Value.ownBlock] at hy) Q3v II II ?_;intro v2 w2 hgn;obtain⟨xs2,ho2,_⟩:=hgn.grow.own;obtain⟨ar,cr,ev,_⟩:=zaw ho2;subst ev;clear ho2;have HP2:=IJ ((hgn.below.block p pW).trans HP1.out);have HK2:=IJ ((hgn.below.block r II).trans HK1.out);have HS2:=IJ (HS1.out.below (show b<W0.heap.size by omega) hgn.below);have HC2:Hid (Chg [b] w w2):=Chg.thenB' HC1.out (hgn.below.mono II);have HG2:=IJ hgn.grow;have z2:=hgn.size;have IV2:=IJ (IV1.out.mono (Nat.le_refl _) (Nat.le_of_lt z2));clear hgn HP1 HK1 HS1 HC1 OV1 IV1;simp only[List.nil_append,Nat.zero_add] at HG2;have q2:=bkC HP2.out 2 rfl;have f2:=bkF HP2.out 2;simp only[Nat.zero_add];go_upto_region 3 with (fail);have HP3:Hid ((w2.setCell ⟨p,2,none⟩ (IZ ar 1 cr)).heap[p]? = some (.cells #[IZ none 0 0,IZ none 0 0,IZ ar 1 cr,IZ none 0 0] 32 (0,0))):=by
  have:=bkS HP2.out 2 (IZ ar 1 cr);show _=_
  simpa using this
 have LW:Hid (OI p w2 (w2.setCell ⟨p,2,none⟩ (IZ ar 1 cr))):=(Below.refl p w2).setCell (p:=⟨p,2,none⟩) (Nat.le_refl _) _;have HK3:=IJ ((LW.out.block r rp).trans HK2.out);have HS3:=IJ (HS2.out.below (show b<p by omega) LW.out);have HC3:Hid (Chg [b] w (w2.setCell ⟨p,2,none⟩ (IZ ar 1 cr))):=Chg.thenB' HC2.out (LW.out.mono II);have HG3:Hid (Grow (w2.setCell ⟨p,2,none⟩ (IZ ar 1 cr)) W0.heap.size 121 4 (IZ ar 1 cr) 1 x1.tr fp1):=HG2.out.frame (fun g hg=>bkO rfl (p:=⟨p,2,none⟩) (by have:=(HG2.out.block hg).1;show g≠p;omega) _) (fun x hx=>bkO rfl (p:=⟨p,2,none⟩) (by have:=(IV2.out x hx).1;show x≠p;omega) _);have z3:(w2.setCell ⟨p,2,none⟩ (IZ ar 1 cr)).heap.size=w2.heap.size:=zac _ _ _;generalize w2.setCell ⟨p,2,none⟩ (IZ ar 1 cr)=w3 at *;have z23:w2.heap.size≤w3.heap.size:=Nat.le_of_eq z3.symm;have z32:w3.heap.size≤w2.heap.size:=Nat.le_of_eq z3;clear z3 LW HP2 HK2 HS2 HC2 HG2 q2 f2;have IV3:=IJ (IV2.out.mono (Nat.le_refl _) z23);clear IV2;go_wp2_with (fail)
 go_at_call 137
 refine (l06Beam_any ⟨#[111,109,110,105]⟩ 5000 360 60 _ II II II II).mono ?_;rintro e w4 ⟨x2,a4,c4,a5,c5,fp2,hx2,rfl,hb,ov,iv⟩;have HP4:=IJ (bkB HP3.out hb II);have HK4:=IJ (bkB HK3.out hb II);have HS4:=IJ (HS3.out.below HS3.out.lt hb);have HC4:Hid (Chg [b] w w4):=HC3.out.trans (Chg.of_below hb);have HG4:=IJ (HG3.out.below IV3.out hb);have HG4b:Hid (∀ g,(Value.slice ar 1 cr).ownBlock=some g→g<w3.heap.size):=fun g hg=>(HG3.out.block hg).2
 have HX2:=IJ hx2;have OV4:=IJ ov;have IVO:=IJ iv;have z4:=hb.size;clear hx2 ov iv hb HP3 HK3 HS3 HC3 HG3;go_upto_region 4 with (fail);obtain⟨W5,hW5,b5,z5,k5⟩:=zav w4 (x2,a4,c4,a5,c5) 121;rw[hW5];clear hW5;obtain⟨q,hq⟩:∃ q,q=w4.heap.size:=⟨_,rfl⟩
 rw[← hq] at k5 ⊢;have qa:=Nat.le_of_eq hq;have qb:=Nat.le_of_eq hq.symm;have HQ5:=IJ k5;have HP5:=IJ (bkB HP4.out b5 II);have HK5:=IJ (bkB HK4.out b5 II);have HS5:=IJ (HS4.out.below HS4.out.lt b5);have HC5:Hid (Chg [b] w W5):=HC4.out.trans (Chg.of_below b5);have HG5:=IJ (HG4.out.below (IV3.out.mono (Nat.le_refl _) z4) b5);have OV5:=IJ (OV4.out.below IVO.out (Nat.le_refl _) b5);clear b5 k5 hq HP4 HK4 HS4 HC4 HG4 OV4;obtain⟨fn1,g1,e1,_,u1,_⟩:=OV5.out.uncons;obtain⟨fn2,g2,e2,_,u2,_⟩:=u1.uncons;obtain⟨fh,g3,e3,ohh,u3,dj⟩:=u2.uncons;obtain⟨fv,g4,e4,ovv,_,_⟩:=u3.uncons;have OH5:=IJ ohh;have OVV:=IJ ovv;have IH:Hid (In w3 w4 fh):=fun y hy=>IVO.out y (by rw[e1,e2,e3];simp[hy])
 have IVV:Hid (In w3 w4 fv):=fun y hy=>IVO.out y (by rw[e1,e2,e3,e4];simp[hy])
 have DJ:Hid (∀ y ∈ fh,y ∉ fv):=fun y hy h2=>dj y hy (by rw[e4];simp[h2])
 clear OV5 IVO e1 e2 e3 e4 u1 u2 u3 ohh ovv dj;have e36:=HX2.out.hl;have E36:=IJ e36;obtain⟨hb_,off,ea,hbm⟩:∃ b off,a4=some ⟨b,off,none⟩∧b ∈ fh:=by
  have h2:=OH5.out
  cases hl:x2.horizontal with
  | nil=>rw[hl] at e36;cases e36
  | cons y l =>
   rw[hl] at h2;exact Own.someAddr (ts:=[]) (t:=intT y) (us:=l.map intT) h2
 subst ea;have HBM:=IJ hbm;have hbr:=IH.out _ hbm;have hi36:(x2.horizontal.length:Int)=36:=II
 clear hbm e36;go_wp2;go_loopw [5] (fun i wr=>∃ (k:Nat) (l:List Int),k≤36∧i=J (k:Int)∧l.length=36∧(∀ j (hj:j<l.length),j<k→l[j]=0)∧Chg [hb_] W5 wr∧Own wr (zam l) (IZ (some ⟨hb_,off,none⟩) x2.horizontal.length c4) fh) (fun i wr=>36-(intOf i).toNat)
 case atStart=>exact⟨0,x2.horizontal,Nat.zero_le _,rfl,E36.out,fun j hj h=>absurd h II,Chg.refl _ _,OH5.out⟩
 case round =>
  obtain⟨k,l,hk,rfl,hl,hz,hch,ho⟩:=hrel;have HL:=IJ hl;have HZ:=IJ hz;have HC:=IJ hch;have HO:=IJ ho;have HQr:=IJ ((hch.block q II Q41).trans HQ5.out);have t2:=bkC HQr.out 2 rfl;clear hl hz hch ho
  by_cases hlt:k<36
  ·have hki:(k:Int)<(x2.horizontal.length:Int):=II
   have hk0:(0:Int)≤(k:Int):=II
   obtain⟨s1,s2,s3⟩:=own_setI HO.out (i:=k) (by rw[HL.out];exact hlt) 0;have HO2:=IJ s3;clear s3;go_wp2;go_roundw
   case rel =>
    refine⟨k+1,l.set k 0,II,by go_num,by rw[List.length_set];exact HL.out,fun j hj hjk=>?_,HC.out.setCell Q4a _,HO2.out⟩;rw[List.getElem_set]
    split
    ·rfl
    ·exact HZ.out j (by rw[List.length_set] at hj;exact hj) II
   case measure=>simp[intOf];omega
  ·obtain rfl:k=36:=II
   have hki:¬ ((36:Nat):Int)<(x2.horizontal.length:Int):=II
   have LZ:Hid (LossP 0 l):=loss_zero (fun i hi=>HZ.out i hi (by rw[HL.out] at hi;exact hi));have lnf:∀ y,y<W5.heap.size→y≠hb_→wr.heap[y]? = W5.heap[y]?:=fun y hy hn=>HC.out.block y hy (by simp;exact hn)
   have HP6:=IJ ((lnf p II II).trans HP5.out);have HK6:=IJ ((lnf r II II).trans HK5.out);have HBW:Hid (OI w3 W5 wr):=HC.out.below II (fun x hx=>by simp at hx;omega);have HS6:=IJ (HS5.out.below (show b<w3.heap.size by omega) HBW.out);have HC6:Hid (Chg [b] w wr):=Chg.thenB' HC5.out (HBW.out.mono II);have HG6:Hid (Grow wr W0.heap.size 121 4 (IZ ar 1 cr) 1 x1.tr fp1):=HG5.out.frame (fun g hg=>HBW.out.block g (by have:=(HG4b.out g hg);omega)) (fun x hx=>HBW.out.block x (IV3.out x hx).2);have OV6:Hid (OwnV wr (DAntenna.tr ⟨x2.name,x2.gain,l,x2.vertical⟩) [IQ x2.name,J x2.gain,IZ (some ⟨hb_,off,none⟩) x2.horizontal.length c4,IZ a5 x2.vertical.length c5] (fh++(fv++[]))) :=
    OwnV.consLit (OwnV.consLit (OwnV.cons HO.out (OwnV.cons (OVV.out.chg IVV.out II HC.out (fun x hx=>by simp;exact fun e=>DJ.out hb_ HBM.out (e ▸ hx))) OwnV.nil (fun x _=>by simp)) (fun x hx h2=>DJ.out x hx (by simpa using h2))) rfl) rfl
   have I6:Hid (In w3 wr (fh++(fv++[]))):=by
    refine In.append (IH.out.mono (Nat.le_refl _) (by have:=HC.out.size;omega)) ?_;rw[List.append_nil];exact IVV.out.mono (Nat.le_refl _) (by have:=HC.out.size;omega)
   have HA2:Hid (antB ⟨x2.name,x2.gain,l,x2.vertical⟩=true):=BeamA.ok (name:=⟨#[111,109,110,105]⟩) (gain:=5000) ⟨HX2.out.name,HX2.out.gain,HL.out,HX2.out.vl,LZ.out,HX2.out.v⟩ HNM.out.2.1 (by simp[inB]);have z6:=HC.out.size;have qw:wr.heap[q]? = _:=HQr.out;clear HZ HL LZ lnf HP5 HK5 HS5 HC5 HG5 HBW HC HO OH5 HBM t2 hk hlt;generalize wr=w6 at *;obtain⟨t0,t1,t2,t3,_⟩:=bz4 HQr.out;have q2:=bkC HP6.out 2 rfl;have hfw:W0.heap.size≤w6.heap.size:=II
   go_upto_region 9 with (at_builtin;refine zax rfl (.tmp 28) (.tmp 30) _ rfl W0.heap.size 121 iA _ 4 72 Tryz.underlying29 hA0 hA1 hA2 hA3 rfl II _ _ _ fp1 rfl HG6.out [IQ x2.name,J x2.gain,IZ (some ⟨hb_,off,none⟩) x2.horizontal.length c4,IZ a5 x2.vertical.length c5] (DAntenna.tr ⟨x2.name,x2.gain,l,x2.vertical⟩) (fh++(fv++[])) rfl 1 rfl (fun u hu=>by simp only[List.mem_cons,List.not_mem_nil,or_false] at hu;rcases hu with rfl|rfl|rfl|rfl<;>rfl) OV6.out.rep OV6.out.nd OV6.out.free W0.heap.size (IV3.out.mono (Nat.le_refl _) II) (I6.out.mono II (Nat.le_refl _)) (fun y h1 h2=>by have:=(I6.out y h1).1;have:=(IV3.out y h2).2;omega) (fun y hy h1=>by have:=(I6.out y h1).1;have:=HG4b.out y hy;omega) Q3v II II ?_;intro v2 w7 hgn;obtain⟨xs2,ho2,_⟩:=hgn.grow.own;obtain⟨at2,ct2,ev,_⟩:=zaw ho2;subst ev;clear ho2 t0 t1 t2 t3 q2;have HGN:=IJ hgn;have HP7:=IJ ((hgn.below.block p pW).trans HP6.out);clear hgn;have q2:=bkC HP7.out 2 rfl;have f2:=bkF HP7.out 2);have HAT:=IJ (And.intro HGN.out.grow (And.intro HGN.out.below (And.intro HGN.out.size HGN.out.keep)));obtain⟨hg7,hb7,hz7,hk7⟩:=HAT.out;have IFA:Hid (In W0 w7 (fp1++(fh++(fv++[])))):=(IV3.out.mono (Nat.le_refl _) II).append (I6.out.mono II II);have hsx:=zbz p [IZ at2 2 ct2] w7 0;obtain⟨xa,xc,fA,exA,oA,iA_⟩:=hg7.toOwn (lo:=W0.heap.size) II IFA.out (Nat.le_refl _);injection exA with e1 e2 e3;subst e1 e3;have hpk:=hk7;have HB8:Hid (BsS b k 0 w (w7.setCell ⟨p,2,none⟩ (IZ at2 2 ct2)) r p w7.heap.size 32 (IZ at2 2 ct2) (DAntenna.sT [x1,⟨x2.name,x2.gain,l,x2.vertical⟩])):=by
    have LW:OI p w7 (w7.setCell ⟨p,2,none⟩ (IZ at2 2 ct2)):=(Below.refl p w7).setCell (p:=⟨p,2,none⟩) (Nat.le_refl _) _;have hcs:Chg [b] w w7:=Chg.thenB' HC6.out (hb7.mono II);refine⟨⟨k,Nat.le_refl _,Nat.le_refl _,(HS6.out.below (show b<W0.heap.size by omega) hb7).below (show b<p by omega) LW⟩,Chg.thenB' hcs (LW.mono II) |> fun _=>⟨hcs.os,hcs.tape,hcs.output,by rw[zac];exact hcs.size,fun x hx hn=>(LW.block x II).trans (hcs.block x hx hn)⟩,(LW.block r rp).trans ((hb7.block r II).trans HK6.out),?_,yb,wr_,rp,by rw[zac];exact Nat.le_refl _,fA,?_,iA_.mono II (Nat.le_refl _)⟩
    ·have:=bkS HP7.out 2 (IZ at2 2 ct2)
     simpa using this
    ·have oA2:Own w7 (DAntenna.sT [x1,⟨x2.name,x2.gain,l,x2.vertical⟩]) (IZ at2 2 ct2) fA:=by
      have e:DAntenna.sT [x1,⟨x2.name,x2.gain,l,x2.vertical⟩]=.sl 4 (x1.tr++DAntenna.tr ⟨x2.name,x2.gain,l,x2.vertical⟩):=by
       unfold DAntenna.sT;simp
      rw[e];exact oA
     exact oA2.setFar (p:=⟨p,2,none⟩) (fun e=>by have:=(iA_ _ e).1;simp only at this;omega) _
   have HA1:Hid (antB x1=true):=HX1.out.ok HNM.out.1 (by simp[inB]);have HXN:Hid ((DAntenna.mk x2.name x2.gain l x2.vertical).name=⟨#[111,109,110,105]⟩):=HX2.out.name;have NA1:Hid (x1.name=⟨#[98,101,97,109]⟩∧x2.name=⟨#[111,109,110,105]⟩):=⟨HX1.out.name,HX2.out.name⟩
   have p7:p<w7.heap.size:=II
   have z8:(w7.setCell ⟨p,2,none⟩ (IZ at2 2 ct2)).heap.size=w7.heap.size:=zac _ _ _;generalize (⟨x2.name,x2.gain,l,x2.vertical⟩:DAntenna)=X2 at *;clear HAT hg7 hb7 hz7 hk7 IFA hsx oA iA_ hpk HGN OV6 I6 HG6 HP6 HK6 HS6 HC6 HP7 HX1 HX2 HQr qw HQ5 OVV IH IVV DJ IV3 HG4b q2 f2 e2;generalize w7.setCell ⟨p,2,none⟩ (IZ at2 2 ct2)=w8 at *;have z8a:=Nat.le_of_eq z8;have z8b:=Nat.le_of_eq z8.symm;clear z8;go_wp2_with (fail)
   go_at_call 138
   obtain⟨kk,ka,kb,SS⟩:=HB8.out.src;refine (l07DrawOk_any b kk _ SS II).mono ?_;rintro e w9 ⟨y1,a6,c6,fr1,hr1,rfl,ov,iv,hq⟩;have HB9:=IJ (HB8.out.call ka kb hq);have HY1:=IJ hr1;obtain⟨fm1,om1,sm1⟩:=radio_modes ov;have I1:Hid (In w8 w9 fm1):=fun x hx=>iv x (sm1 x hx)
   have OM1:=IJ om1;have z9:=HB9.out.hh;obtain⟨_,_,_,_,cq⟩:=hq;have z89:=cq.size;clear HB8 ka kb SS hr1 om1 sm1 ov iv cq;go_upto_region 10 with (fail);obtain⟨W10,hW10,b10,z10,k10⟩:=zav w9 (y1,a6,c6) 125;rw[hW10];clear hW10;obtain⟨s1,hs1⟩:∃ s1,s1=w9.heap.size:=⟨_,rfl⟩
   rw[← hs1] at k10 ⊢;have s1a:=Nat.le_of_eq hs1;have s1b:=Nat.le_of_eq hs1.symm;have HB10:=IJ (HB9.out.below b10);have OM10:=IJ (OM1.out.below I1.out (Nat.le_refl _) b10);have HS10:=IJ k10;clear b10 k10 hs1 HB9 OM1;have q0:=bkC HS10.out 0 rfl;have f0:=bkF HS10.out 0;go_upto_region 11 with (fail);have HB11:Hid (BsS b k (0+60) w (W10.setCell ⟨s1,0,none⟩ (IQ ⟨#[98,105,103]⟩)) r p w7.heap.size 32 (IZ at2 2 ct2) (DAntenna.sT [x1,X2])):=HB10.out.setO II II 0 _;have OM11:Hid (Own (W10.setCell ⟨s1,0,none⟩ (IQ ⟨#[98,105,103]⟩)) (DMode.sT y1.modes) (IZ a6 y1.modes.length c6) fm1):=OM10.out.setFar (p:=⟨s1,0,none⟩) (fun e=>by have:=(I1.out _ e).2;simp only at this;omega) _;have HS11:Hid ((W10.setCell ⟨s1,0,none⟩ (IQ ⟨#[98,105,103]⟩)).heap[s1]? = some (.cells #[IQ ⟨#[98,105,103]⟩,J y1.power,J y1.feeder,J y1.noise,J y1.width,IZ a6 y1.modes.length c6] 125 (0,0))):=by
    have:=bkS HS10.out 0 (IQ ⟨#[98,105,103]⟩);show _=_
    simpa using this
   have z11:(W10.setCell ⟨s1,0,none⟩ (IQ ⟨#[98,105,103]⟩)).heap.size=W10.heap.size:=zac _ _ _;generalize W10.setCell ⟨s1,0,none⟩ (IQ ⟨#[98,105,103]⟩)=w11 at *;have z11a:=Nat.le_of_eq z11;have z11b:=Nat.le_of_eq z11.symm;clear z11 HB10 OM10 HS10 q0 f0;go_wp2_with (fail)
   go_at_call 138
   obtain⟨kk,ka,kb,SS⟩:=HB11.out.src;refine (l07DrawOk_any b kk _ SS II).mono ?_;rintro e w12 ⟨y2,a7,c7,fr2,hr2,rfl,ov,iv,hq⟩;have HB12:=IJ (HB11.out.call ka kb hq);have HY2:=IJ hr2;obtain⟨fm2,om2,sm2⟩:=radio_modes ov;have I2:Hid (In w11 w12 fm2):=fun x hx=>iv x (sm2 x hx)
   have OM2:=IJ om2;obtain⟨_,_,_,_,cq⟩:=hq;have bp_:b<p:=by have:=HB11.out.bl;have:=HB11.out.lr;have:=HB11.out.rp;omega
   have OM12:=IJ (own_range (w':=w12) OM11.out I1.out (fun x h1 h2=>cq.block x II Q41));have HS12:=IJ ((cq.block s1 II Q41).trans HS11.out);have z12:=cq.size;clear HB11 OM11 HS11 ka kb SS hr2 om2 sm2 ov iv cq;go_upto_region 12 with (fail);obtain⟨W13,hW13,b13,z13,k13⟩:=zav w12 (y2,a7,c7) 125;rw[hW13];clear hW13;obtain⟨s2,hs2⟩:∃ s2,s2=w12.heap.size:=⟨_,rfl⟩
   rw[← hs2] at k13 ⊢;have s2a:=Nat.le_of_eq hs2;have s2b:=Nat.le_of_eq hs2.symm;have HB13:=IJ (HB12.out.below b13);have OMa:=IJ (OM12.out.below I1.out II b13);have OMb:=IJ (OM2.out.below I2.out (Nat.le_refl _) b13);have HSa:=IJ (bkB HS12.out b13 II);have HSb:=IJ k13;clear b13 k13 hs2 HB12 OM12 OM2 HS12;have q0:=bkC HSb.out 0 rfl;have f0:=bkF HSb.out 0;go_upto_region 13 with (fail);have HB14:Hid (BsS b k (0+60+60) w (W13.setCell ⟨s2,0,none⟩ (IQ ⟨#[115,109,97,108,108]⟩)) r p w7.heap.size 32 (IZ at2 2 ct2) (DAntenna.sT [x1,X2])):=HB13.out.setO II II 0 _;have OA14:Hid (Own (W13.setCell ⟨s2,0,none⟩ (IQ ⟨#[115,109,97,108,108]⟩)) (DMode.sT y1.modes) (IZ a6 y1.modes.length c6) fm1):=OMa.out.setFar (p:=⟨s2,0,none⟩) (fun e=>by have:=(I1.out _ e).2;simp only at this;omega) _;have OB14:Hid (Own (W13.setCell ⟨s2,0,none⟩ (IQ ⟨#[115,109,97,108,108]⟩)) (DMode.sT y2.modes) (IZ a7 y2.modes.length c7) fm2):=OMb.out.setFar (p:=⟨s2,0,none⟩) (fun e=>by have:=(I2.out _ e).2;simp only at this;omega) _;have HT1:Hid ((W13.setCell ⟨s2,0,none⟩ (IQ ⟨#[115,109,97,108,108]⟩)).heap[s1]? = some (.cells #[IQ ⟨#[98,105,103]⟩,J y1.power,J y1.feeder,J y1.noise,J y1.width,IZ a6 y1.modes.length c6] 125 (0,0))):=bkO HSa.out (p:=⟨s2,0,none⟩) (by show s1≠s2;omega) _;have HT2:Hid ((W13.setCell ⟨s2,0,none⟩ (IQ ⟨#[115,109,97,108,108]⟩)).heap[s2]? = some (.cells #[IQ ⟨#[115,109,97,108,108]⟩,J y2.power,J y2.feeder,J y2.noise,J y2.width,IZ a7 y2.modes.length c7] 125 (0,0))):=by
    have:=bkS HSb.out 0 (IQ ⟨#[115,109,97,108,108]⟩);show _=_
    simpa using this
   have z14:(W13.setCell ⟨s2,0,none⟩ (IQ ⟨#[115,109,97,108,108]⟩)).heap.size=W13.heap.size:=zac _ _ _;generalize W13.setCell ⟨s2,0,none⟩ (IQ ⟨#[115,109,97,108,108]⟩)=w14 at *;have z14a:=Nat.le_of_eq z14;have z14b:=Nat.le_of_eq z14.symm;clear z14 HB13 OMa OMb HSa HSb q0 f0;have DJM:∀ x ∈ fm1,x ∉ fm2:=fun x h1 h2=>by have:=(I1.out x h1).2;have:=(I2.out x h2).1;omega
   have OVR:Hid (OwnV w14 (DRadio.tr { y1 with name:=⟨#[98,105,103]⟩ }++DRadio.tr { y2 with name:=⟨#[115,109,97,108,108]⟩ }) ([IQ ⟨#[98,105,103]⟩,J y1.power,J y1.feeder,J y1.noise,J y1.width,IZ a6 y1.modes.length c6]++[IQ ⟨#[115,109,97,108,108]⟩,J y2.power,J y2.feeder,J y2.noise,J y2.width,IZ a7 y2.modes.length c7]) ((fm1++[])++(fm2++[]))) :=
    OwnV.append (OwnV.consLit (OwnV.consLit (OwnV.consLit (OwnV.consLit (OwnV.consLit (OwnV.cons OA14.out OwnV.nil (fun x _=>by simp)) rfl) rfl) rfl) rfl) rfl) (OwnV.consLit (OwnV.consLit (OwnV.consLit (OwnV.consLit (OwnV.consLit (OwnV.cons OB14.out OwnV.nil (fun x _=>by simp)) rfl) rfl) rfl) rfl) rfl) (fun x h1 h2=>DJM x (by simpa using h1) (by simpa using h2))
   have IR:Hid (In w8 w14 ((fm1++[])++(fm2++[]))):=by
    rw[List.append_nil,List.append_nil];exact (I1.out.mono (Nat.le_refl _) II).append (I2.out.mono II II)
   generalize ((fm1++[])++(fm2++[]))=FR at *;have HYS:Hid (radB { y1 with name:=⟨#[98,105,103]⟩ } = true∧radB { y2 with name:=⟨#[115,109,97,108,108]⟩ } = true):=⟨radB_name HY1.out HNM.out.2.2.1,radB_name HY2.out HNM.out.2.2.2⟩
   clear DJM OA14 OB14 I1 I2 HY1 HY2;obtain⟨t0,t1,t2,t3,t4,t5,_⟩:=bz6 HT1.out;obtain⟨u0,u1,u2,u3,u4,u5,_⟩:=bz6 HT2.out;have q3:=bkC HB14.out.hp 3 rfl;have pw14:p<w14.heap.size:=zcv HB14.out.hp;go_upto_region 14 with (at_builtin;refine wpList_appendM rfl (.tmp 40) (.tmp 43) _ rfl w14.heap.size 125 iR _ 6 72 Tryz.underlying30 hR0 hR1 hR2 hR3 rfl II (IZ none 0 0) 0 2 [] [] rfl Grow.nil [IQ ⟨#[98,105,103]⟩,J y1.power,J y1.feeder,J y1.noise,J y1.width,IZ a6 y1.modes.length c6,IQ ⟨#[115,109,97,108,108]⟩,J y2.power,J y2.feeder,J y2.noise,J y2.width,IZ a7 y2.modes.length c7] (DRadio.tr { y1 with name:=⟨#[98,105,103]⟩ }++DRadio.tr { y2 with name:=⟨#[115,109,97,108,108]⟩ }) FR rfl 2 rfl (fun u hu=>by simp only[List.mem_cons,List.not_mem_nil,or_false] at hu;rcases hu with rfl|rfl|rfl|rfl|rfl|rfl|rfl|rfl|rfl|rfl|rfl|rfl<;>rfl) OVR.out.rep OVR.out.nd OVR.out.free 0 In.nil (IR.out.mono II (Nat.le_refl _)) (fun y _ h2=>by simp at h2) (fun y hy=>by simp[Value.ownBlock] at hy) Q3v II (Nat.le_refl _) ?_;intro v2 w15 hgn;obtain⟨xs2,ho2,_⟩:=hgn.grow.own;obtain⟨ar3,cr3,ev,_⟩:=zaw ho2;subst ev;clear ho2 t0 t1 t2 t3 t4 t5 u0 u1 u2 u3 u4 u5 q3;have HGN:=IJ hgn;have HB15:=IJ (HB14.out.below (hgn.below));clear hgn;have q3:=bkC HB15.out.hp 3 rfl;have f3:=bkF HB15.out.hp 3);obtain⟨xa,xc,fR,exR,oR,iR_⟩:=HGN.out.grow.toOwn (lo:=w8.heap.size) II (by rw[List.nil_append];exact IR.out.mono (Nat.le_refl _) (Nat.le_of_lt HGN.out.size)) II;injection exR with e1 e2 e3;subst e1 e3;obtain⟨fA2,oA2,iA2⟩:=HB15.out.row;have LW:OI p w15 (w15.setCell ⟨p,3,none⟩ (IZ ar3 2 cr3)):=(Below.refl p w15).setCell (p:=⟨p,3,none⟩) (Nat.le_refl _) _;have hp16:(w15.setCell ⟨p,3,none⟩ (IZ ar3 2 cr3)).heap[p]? = some (.cells #[IZ none 0 0,IZ none 0 0,IZ at2 2 ct2,IZ ar3 2 cr3] 32 (0,0)):=by
    have:=bkS HB15.out.hp 3 (IZ ar3 2 cr3)
    simpa using this
   have HP16:=IJ hp16;have HK16:=IJ ((LW.block r HB15.out.rp).trans HB15.out.hr);have OVF:Hid (OwnV (w15.setCell ⟨p,3,none⟩ (IZ ar3 2 cr3)) (DNetwork.tr ⟨[],[],[x1,X2],[{ y1 with name:=⟨#[98,105,103]⟩ },{ y2 with name:=⟨#[115,109,97,108,108]⟩ }]⟩) [IZ none 0 0,IZ none 0 0,IZ at2 2 ct2,IZ ar3 2 cr3] ([]++([]++(fA2++(fR++[]))))):=by
    have hnil:∀ k,Own (w15.setCell ⟨p,3,none⟩ (IZ ar3 2 cr3)) (.sl k []) (IZ none 0 0) []:=fun k=>⟨zb7.2 ⟨none,0,0,rfl,by simp,Nat.le_refl _,by unfold maxLen;omega,Or.inl ⟨rfl,rfl⟩⟩,List.nodup_nil,fun b h=>by simp at h⟩
    have oR2:Own w15 (DRadio.sT [{ y1 with name:=⟨#[98,105,103]⟩ },{ y2 with name:=⟨#[115,109,97,108,108]⟩ }]) (IZ ar3 2 cr3) fR:=by
     have e:DRadio.sT [{ y1 with name:=⟨#[98,105,103]⟩ },{ y2 with name:=⟨#[115,109,97,108,108]⟩ }]=.sl 6 (DRadio.tr { y1 with name:=⟨#[98,105,103]⟩ }++DRadio.tr { y2 with name:=⟨#[115,109,97,108,108]⟩ }):=by
      unfold DRadio.sT;simp
     rw[e];exact oR
    refine OwnV.cons (hnil 4) (OwnV.cons (hnil 9) (OwnV.cons (oA2.setFar (p:=⟨p,3,none⟩) (fun e=>by have:=(iA2 _ e).1;simp only at this;omega) _) (OwnV.cons (oR2.setFar (p:=⟨p,3,none⟩) (fun e=>by have:=(iR_ _ e).1;simp only at this;omega) _) OwnV.nil (fun x _=>by simp)) (fun x h1 h2=>?_)) (fun x hx=>by simp at hx)) (fun x hx=>by simp at hx);rw[List.append_nil] at h2;have:=(iA2 x h1).2;have:=(iR_ x h2).1;omega
   have IVF:Hid (In (p+1) w15.heap.size ([]++([]++(fA2++(fR++[]))))):=by
    rw[List.nil_append,List.nil_append,List.append_nil];exact (iA2.mono (Nat.le_refl _) HB15.out.hh).append (iR_.mono II (Nat.le_refl _))
   generalize ([]++([]++(fA2++(fR++[]))))=FN at *;have HNT:Hid (NetD ⟨[],[],[x1,X2],[{ y1 with name:=⟨#[98,105,103]⟩ },{ y2 with name:=⟨#[115,109,97,108,108]⟩ }]⟩):=base_ok HA1.out HA2.out HYS.out.1 HYS.out.2 NA1.out.1 HXN.out rfl rfl;have HFS:Hid (SrcQ b k 120 w (w15.setCell ⟨p,3,none⟩ (IZ ar3 2 cr3))):=by
    obtain⟨k',h1,h2,S⟩:=HB15.out.src;have:=HB15.out.bl;have:=HB15.out.lr;have:=HB15.out.rp;exact SrcQ.low S II h1 II HB15.out.chg II LW
   have z16:(w15.setCell ⟨p,3,none⟩ (IZ ar3 2 cr3)).heap.size=w15.heap.size:=zac _ _ _;generalize w15.setCell ⟨p,3,none⟩ (IZ ar3 2 cr3)=w16 at *;have z16a:=Nat.le_of_eq z16;have z16b:=Nat.le_of_eq z16.symm;clear z16 HB15 HGN LW oA2 iA2 oR iR_ hp16 q3 f3 HB14 OVR IR HT1 HT2;obtain⟨t0,t1,t2,t3,_⟩:=bz4 HP16.out;obtain⟨u0,u1,u2,u3,g⟩:=bz4 HK16.out;go_wp2;refine bodyPost_ret (v:=.agg #[IZ none 0 0,IZ none 0 0,IZ at2 2 ct2,IZ ar3 2 cr3]) (by simp[results,Tryz.results90,go_sem, *]) rfl ?_;have hfar:=zca r [IZ none 0 0,IZ none 0 0,IZ at2 2 ct2,IZ ar3 2 cr3] w16 0;have hsz:=zb2 r [IZ none 0 0,IZ none 0 0,IZ at2 2 ct2,IZ ar3 2 cr3] w16 0;refine⟨_,_,_,_,HNT.out,rfl,⟨FN,OVF.out.frame (fun x hx=>hfar x (by have:=(IVF.out x hx).1;omega)),IVF.out.mono II (by have:=hsz;simp only[zbq] at this;rw[this];omega)⟩,?_⟩;obtain⟨k',h1,h2,S,C⟩:=HFS.out;exact SrcQ.low S II h1 h2 C wr_ (zbz r [IZ none 0 0,IZ none 0 0,IZ at2 2 ct2,IZ ar3 2 cr3] w16 0)
theorem l14Base_any (b k:Nat) (w:World) (h:Src w b k) (hk:k≤1099511500000):Calls Tryz.prog 90 #[.pointer (some ⟨b,0,none⟩)] w (DrNet b k 120 w) :=
 (l14Base_new b k w h hk).mono (fun _ _ ⟨la,lr,v2,v3,h1,h2,h3,h4⟩=>⟨⟨[],[],la,lr⟩,_,_,v2,v3,h1,h2,h3,SpB.nil,SpB.nil,h4⟩)
end Go.Proofs.YtpakghepnahooaaGreatDoor
namespace Go.Proofs.YtpakghepnahooaaGreatDoor
set_option maxHeartbeats 16000000
set_option maxRecDepth 100000
open Go.RowKit
theorem siteB_small {x:DSite} (h:zbk x=true):x.ok∧sizL x.tr≤1048576:=by
 unfold zbk zc1 at h;simp only[Bool.and_eq_true] at h;obtain⟨p1,p2,p3,p4⟩:=h;have q1:=zbw p1;have q2:=zbw p2;exact⟨⟨by unfold maxLen;omega,by unfold maxLen;omega,⟨zco p3 II II,zco p4 II II⟩⟩,by simp[DSite.tr,DPoint.tr,sizL,siz,strT,intT];omega⟩
theorem sectorB_small {x:DSector} (h:zag x=true):x.ok∧sizL x.tr≤1048576:=by
 unfold zag at h;simp only[Bool.and_eq_true] at h;obtain⟨p1,p2,p3,p4,p5,p6,p7,p8,p9⟩:=h;have q1:=zbw p1;have q2:=zbw p2;have q3:=zbw p3;have q4:=zbw p4;have q5:=zbw p5;exact⟨⟨by unfold maxLen;omega,by unfold maxLen;omega,by unfold maxLen;omega,by unfold maxLen;omega,by unfold maxLen;omega,zco p6 II II,zco p7 II II,zco p8 II II,zco p9 II II⟩,by simp[DSector.tr,sizL,siz,strT,intT];omega⟩
theorem NetD.site {n:DNetwork} {x:DSite} (h:NetD n) (hc:(za0 n x).2=0):NetD (za0 n x).1∧(za0 n x).1.sites.length=n.sites.length+1∧(za0 n x).1.sectors=n.sectors:=by
 have hb:=addSite_net hc;obtain⟨_,_,_,_,e⟩:=addSite_parts hc;rw[e] at hb ⊢;exact⟨⟨hb,h.ant,h.rad⟩,iz_len _ _ (posOf_le _ _ _),rfl⟩
theorem NetD.sector {n:DNetwork} {x:DSector} (h:NetD n) (hc:(zbb n x).2=0):NetD (zbb n x).1∧(zbb n x).1.sectors.length=n.sectors.length+1∧(zbb n x).1.sites=n.sites:=by
 have hb:=addSec_net hc;obtain⟨_,_,_,_,_,e⟩:=addSec_parts hc;rw[e] at hb ⊢;exact⟨⟨hb,h.ant,h.rad⟩,iz_len _ _ (posOf_le _ _ _),rfl⟩
structure NwS (b k c:Nat) (w0 w:World) (q p lo hi T:Nat) (n:DNetwork) (v0 v1 v2 v3:Value):Prop where
 src:∃ k',k≤k'∧k'≤k+c∧Src w b k'
 chg:Chg [b] w0 w
 hq:w.heap[q]? = some (.cells () T (0,0))
 hp:w.heap[p]? = some (.cells #[v0,v1,v2,v3] T (0,0))
 bl:b<w0.heap.size
 lq:w0.heap.size≤q
 qp:q<p
 ql:q<lo
 sep:hi≤p∨p<lo
 hh:hi≤w.heap.size
 row:NwP lo hi w n v0 v1 v2 v3
 sp0:SpB w lo hi 119 4 v0 n.sites.length
 sp1:SpB w lo hi 43 9 v1 n.sectors.length
 ok:NetD n
section
variable {b k c q p lo hi T:Nat} {w0 w w':World} {n:DNetwork} {v0 v1 v2 v3:Value}
theorem NwS.below (h:NwS b k c w0 w q p lo hi T n v0 v1 v2 v3) (hb:OI w w w'):NwS b k c w0 w' q p lo hi T n v0 v1 v2 v3:=by
 obtain⟨k',h1,h2,S⟩:=h.src;have:=h.hh;have:=hb.size;exact⟨⟨k',h1,h2,S.below S.lt hb⟩,h.chg.trans (Chg.of_below hb),bkB h.hq hb (zcv h.hq),bkB h.hp hb (zcv h.hp),h.bl,h.lq,h.qp,h.ql,h.sep,II,h.row.frame (fun x _ hx=>hb.block x II),h.sp0.frame (fun x _ hx=>hb.block x II),h.sp1.frame (fun x _ hx=>hb.block x II),h.ok⟩
theorem NwS.call {k1 d:Nat} (h:NwS b k c w0 w q p lo hi T n v0 v1 v2 v3) (h1:k≤k1) (h2:k1≤k+c) (g:SrcQ b k1 d w w'):NwS b k (c+d) w0 w' q p lo hi T n v0 v1 v2 v3:=by
 obtain⟨k2,g1,g2,S,C⟩:=g;have:=h.bl;have:=h.lq;have:=h.qp;have:=h.ql;have:=h.hh;have:=C.size;exact⟨⟨k2,II,II,S⟩,h.chg.trans C,(C.block _ (zcv h.hq) Q41).trans h.hq,(C.block _ (zcv h.hp) Q41).trans h.hp,h.bl,h.lq,h.qp,h.ql,h.sep,II,h.row.frame (fun x h1 hx=>C.block x II Q41),h.sp0.frame (fun x h1 hx=>C.block x II Q41),h.sp1.frame (fun x h1 hx=>C.block x II Q41),h.ok⟩
theorem NwS.more {d:Nat} (h:NwS b k c w0 w q p lo hi T n v0 v1 v2 v3) (hd:c≤d):NwS b k d w0 w q p lo hi T n v0 v1 v2 v3:=by
 obtain⟨k',h1,h2,S⟩:=h.src;exact⟨⟨k',h1,II,S⟩,h.chg,h.hq,h.hp,h.bl,h.lq,h.qp,h.ql,h.sep,h.hh,h.row,h.sp0,h.sp1,h.ok⟩
theorem NwS.setO (h:NwS b k c w0 w q p lo hi T n v0 v1 v2 v3) {y:Nat} (hy:hi≤y) (hp:p<y) (j:Nat) (v:Value):NwS b k c w0 (w.setCell ⟨y,j,none⟩ v) q p lo hi T n v0 v1 v2 v3:=by
 obtain⟨k',h1,h2,S⟩:=h.src;have:=h.bl;have:=h.lq;have:=h.qp;have:=h.ql;have:=h.hh;have hf:∀ x,x<hi∨x≤p→(w.setCell ⟨y,j,none⟩ v).heap[x]? = w.heap[x]?:=fun x hx=>Below.heap_setCell w ⟨y,j,none⟩ v x Q40
 refine⟨⟨k',h1,h2,S.below (B:=b+1) II ((Below.refl (b+1) w).setCell (p:=⟨y,j,none⟩) (by show b+1≤y;omega) v)⟩,⟨h.chg.os,h.chg.tape,h.chg.output,by rw[zac];exact h.chg.size,fun x hx hn=>?_⟩,(hf q II).trans h.hq,(hf p II).trans h.hp,h.bl,h.lq,h.qp,h.ql,h.sep,by rw[zac];omega,h.row.frame (fun x _ hx=>hf x II),h.sp0.frame (fun x _ hx=>hf x II),h.sp1.frame (fun x _ hx=>hf x II),h.ok⟩;rw[hf x II];exact h.chg.block x hx hn
theorem sp4 {lj hj E m:Nat} {v u0 u1 u2 u3:Value} {k:Nat} (h:SpB w lj hj E k v m) (hl:p<lj):SpB ((((w.setCell ⟨p,0,none⟩ u0).setCell ⟨p,1,none⟩ u1).setCell ⟨p,2,none⟩ u2).setCell ⟨p,3,none⟩ u3) lj hj E k v m:=(((h.setFar (p:=⟨p,0,none⟩) (Or.inl hl) u0).setFar (p:=⟨p,1,none⟩) (Or.inl hl) u1).setFar (p:=⟨p,2,none⟩) (Or.inl hl) u2).setFar (p:=⟨p,3,none⟩) (Or.inl hl) u3
theorem NwS.put (h:NwS b k c w0 w q p lo hi T n v0 v1 v2 v3) {lj hj:Nat} {x:DNetwork} {u0 u1 u2 u3:Value} (hx:NetD x) (hl:p<lj) (hjw:hj≤w.heap.size) (R:NwP lj hj w x u0 u1 u2 u3) (S0:SpB w lj hj 119 4 u0 x.sites.length) (S1:SpB w lj hj 43 9 u1 x.sectors.length):NwS b k c w0 ((((w.setCell ⟨p,0,none⟩ u0).setCell ⟨p,1,none⟩ u1).setCell ⟨p,2,none⟩ u2).setCell ⟨p,3,none⟩ u3) q p lj hj T x u0 u1 u2 u3:=by
 obtain⟨k',h1,h2,S⟩:=h.src;have:=h.bl;have:=h.lq;have:=h.qp;have hbb:OI p w ((((w.setCell ⟨p,0,none⟩ u0).setCell ⟨p,1,none⟩ u1).setCell ⟨p,2,none⟩ u2).setCell ⟨p,3,none⟩ u3):=zbz p [u0,u1,u2,u3] w 0;have hpp:=bkS (bkS (bkS (bkS h.hp 0 u0) 1 u1) 2 u2) 3 u3;refine⟨⟨k',h1,h2,S.below (B:=p) II hbb⟩,⟨hbb.os.trans h.chg.os,hbb.tape.trans h.chg.tape,hbb.output.trans h.chg.output,by have:=hbb.size;have:=h.chg.size;omega,fun y hy hn=>(hbb.block y II).trans (h.chg.block y hy hn)⟩,(hbb.block _ h.qp).trans h.hq,hpp,h.bl,h.lq,h.qp,II,Or.inr hl,by simpa using hjw,R.frame (fun y hy _=>?_),sp4 S0 hl,sp4 S1 hl,hx⟩;rw[bkO rfl (p:=⟨p,3,none⟩) (by show y≠p;omega) u3,bkO rfl (p:=⟨p,2,none⟩) (by show y≠p;omega) u2,bkO rfl (p:=⟨p,1,none⟩) (by show y≠p;omega) u1,bkO rfl (p:=⟨p,0,none⟩) (by show y≠p;omega) u0]
theorem NwS.fin (h:NwS b k c w0 w q p lo hi T n v0 v1 v2 v3):DrNet b k c w0 (.returned (.agg #[v0,v1,v2,v3])) (zbq w q 0 [v0,v1,v2,v3]):=by
 obtain⟨k',h1,h2,S⟩:=h.src;have:=h.bl;have:=h.lq;have:=h.ql;have hfar:=zca q [v0,v1,v2,v3] w 0;have hsz:=zb2 q [v0,v1,v2,v3] w 0;refine⟨n,v0,v1,v2,v3,h.ok,rfl,(h.row.frame (fun x hx _=>hfar x II)).mono II (by rw[hsz];exact h.hh),(h.sp0.frame (fun x hx _=>hfar x II)).mono II (by rw[hsz];exact h.hh),(h.sp1.frame (fun x hx _=>hfar x II)).mono II (by rw[hsz];exact h.hh),SrcQ.low S II h1 h2 h.chg h.lq (zbz q [v0,v1,v2,v3] w 0)⟩
end
theorem l14Draw_any (b k:Nat) (w:World) (h:Src w b k) (hk:k≤1099511400000):Calls Tryz.prog 56 #[.pointer (some ⟨b,0,none⟩)] w (DrNet b k 240 w):=by
 have yb:=h.lt;have HS:=IJ h;clear h;go_enter Tryz.func56,Tryz.ntmps56;go_wp2_with (fail);obtain⟨W0,hW0,b0,z0,k0⟩:=zav w () 32;rw[hW0];clear hW0;obtain⟨q,hq⟩:∃ q,q=w.heap.size:=⟨_,rfl⟩
 rw[← hq] at k0 ⊢;have q1:=Nat.le_of_eq hq;have q2:=Nat.le_of_eq hq.symm;have K0:=IJ k0;have B0:=IJ b0;clear b0 k0 hq
 go_at_call 90
 refine (l14Base_any b k W0 (HS.out.below HS.out.lt B0.out) II).mono ?_;rintro e w1 ⟨n,v0,v1,v2,v3,hn,rfl,hrow,hs0,hs1,kk,ka,kb,SS,cq⟩;obtain⟨A0,C0,A1,C1,A2,C2,A3,C3,rfl,rfl,rfl,rfl⟩:=hrow.form;have HN:=IJ hn;have HR:=IJ hrow;have H0:=IJ hs0;have H1:=IJ hs1;have SK:=IJ SS;have CQ:=IJ cq;have zq:=cq.size;have K1:=IJ ((cq.block q II Q41).trans K0.out);clear hn hrow hs0 hs1 SS cq HS K0;go_upto_region 2 with (fail);obtain⟨w2,hw2,b2,z2,k2⟩:=zav w1 (n,A0,C0,A1,C1,A2,C2,A3,C3) 32;rw[hw2];clear hw2;obtain⟨p,hp⟩:∃ p,p=w1.heap.size:=⟨_,rfl⟩
 obtain⟨lo,hlo⟩:∃ lo,lo=W0.heap.size:=⟨_,rfl⟩
 obtain⟨hi,hhi⟩:∃ hi,hi=w1.heap.size:=⟨_,rfl⟩
 have HR2:=IJ (HR.out.frame (fun x _ hx=>b2.block x hx));have H02:=IJ (H0.out.frame (fun x _ hx=>b2.block x hx));have H12:=IJ (H1.out.frame (fun x _ hx=>b2.block x hx));rw[← hlo,← hhi] at HR2 H02 H12;rw[← hp] at k2 ⊢;have RS0:Hid (NwS b k 120 w w2 q p lo hi 32 n (IZ A0 n.sites.length C0) (IZ A1 n.sectors.length C1) (IZ A2 n.antennas.length C2) (IZ A3 n.radios.length C3)):=⟨⟨kk,ka,kb,SK.out.below SK.out.lt b2⟩,(((Chg.of_below B0.out).trans CQ.out)).trans (Chg.of_below b2),bkB K1.out b2 II,k2,yb,II,II,II,II,II,HR2.out,H02.out,H12.out,HN.out⟩
 clear k2 b2 HR H0 H1 HR2 H02 H12 HN SK CQ K1 B0 hp hlo hhi;obtain⟨v0,e0⟩:∃ v,v=Value.slice A0 n.sites.length C0:=⟨_,rfl⟩
 obtain⟨v1,e1⟩:∃ v,v=Value.slice A1 n.sectors.length C1:=⟨_,rfl⟩
 obtain⟨v2,e2⟩:∃ v,v=Value.slice A2 n.antennas.length C2:=⟨_,rfl⟩
 obtain⟨v3,e3⟩:∃ v,v=Value.slice A3 n.radios.length C3:=⟨_,rfl⟩
 rw[← e0,← e1,← e2,← e3] at RS0;rw[← e0,← e1,← e2,← e3];clear e0 e1 e2 e3;go_wp2_with (fail)
 go_at_call 59
 obtain⟨kk,ka,kb,SS⟩:=RS0.out.src;refine (zbe b kk 4 _ SS II II II).mono ?_;rintro e w3 ⟨⟨M,hM0,hM1,rfl⟩,hq1⟩;have RS:Hid (NwS b k 122 w w3 q p lo hi 32 n v0 v1 v2 v3):=(RS0.out.call ka kb hq1).more II;clear RS0 SS ka kb hq1;obtain⟨M,rfl⟩:=Int.eq_ofNat_of_zero_le hM0;obtain⟨M',hM',hM''⟩:∃ M',M'≤M+1∧M+1≤M':=⟨_,Nat.le_refl _,Nat.le_refl _⟩
 have hM:M'≤4:=II
 have hw:IntKind.i64.wrap (1+(M:Int))=(M':Int):=(IntWalk.i64_in _ II).trans II;clear hM0 hM1;go_wp2;clear hw;go_loopw [4] (fun i wr=>∃ (m:Nat) (n:DNetwork) (v0 v1 v2 v3:Value) (lo hi:Nat),m≤4∧i=J (m:Int)∧NwS b k (122+8*(4-m)) w wr q p lo hi 32 n v0 v1 v2 v3) (fun i wr=>(intOf i).toNat)
 case atStart=>exact⟨M',n,v0,v1,v2,v3,lo,hi,hM,rfl,RS.out.more II⟩
 case round =>
  obtain⟨m,n,v0,v1,v2,v3,lo,hi,hm,rfl,hR⟩:=hrel;have RA:=IJ hR;clear hR RS;obtain⟨A0,C0,A1,C1,A2,C2,A3,C3,rfl,rfl,rfl,rfl⟩:=RA.out.row.form
  by_cases hm0:m=0
  ·subst hm0
   go_wp2_with (fail)
   go_at_call 59
   obtain⟨kk,ka,kb,SS⟩:=RA.out.src;refine (zbe b kk 6 _ SS II II II).mono ?_;rintro e w2 ⟨⟨M,hM0,hM1,rfl⟩,hq1⟩;have RS:Hid (NwS b k 156 w w2 q p lo hi 32 n (IZ A0 n.sites.length C0) (IZ A1 n.sectors.length C1) (IZ A2 n.antennas.length C2) (IZ A3 n.radios.length C3)):=(RA.out.call ka kb hq1).more II;clear RA SS ka kb hq1;obtain⟨M,rfl⟩:=Int.eq_ofNat_of_zero_le hM0;have hM:M≤5:=II
   clear hM0 hM1;obtain⟨v0,e0⟩:∃ v,v=Value.slice A0 n.sites.length C0:=⟨_,rfl⟩
   obtain⟨v1,e1⟩:∃ v,v=Value.slice A1 n.sectors.length C1:=⟨_,rfl⟩
   obtain⟨v2,e2⟩:∃ v,v=Value.slice A2 n.antennas.length C2:=⟨_,rfl⟩
   obtain⟨v3,e3⟩:∃ v,v=Value.slice A3 n.radios.length C3:=⟨_,rfl⟩
   rw[← e0,← e1,← e2,← e3] at RS;clear e0 e1 e2 e3;go_wp2;go_loopw [7] (fun i wr=>∃ (m:Nat) (n:DNetwork) (v0 v1 v2 v3:Value) (lo hi:Nat),m≤5∧i=J (m:Int)∧NwS b k (156+16*(5-m)) w wr q p lo hi 32 n v0 v1 v2 v3) (fun i wr=>(intOf i).toNat)
   case atStart=>exact⟨M,n,v0,v1,v2,v3,lo,hi,hM,rfl,RS.out.more II⟩
   case round =>
    obtain⟨m,n,v0,v1,v2,v3,lo,hi,hm,rfl,hR⟩:=hrel;have RA:=IJ hR;clear hR RS;obtain⟨A0,C0,A1,C1,A2,C2,A3,C3,rfl,rfl,rfl,rfl⟩:=RA.out.row.form
    by_cases hm0:m=0
    ·subst hm0
     obtain⟨t0,t1,t2,t3,_⟩:=bz4 RA.out.hp;obtain⟨s0,s1,s2,s3,g⟩:=bz4 RA.out.hq;go_wp2;exact bodyPost_ret (v:=.agg (n,A0,C0,A1,C1,A2,C2,A3,C3)) (by simp[results,Tryz.results56,go_sem, *]) rfl (RA.out.more II).fin
    ·have hmi:(m:Int) > 0:=II
     have hmp:0<(m:Int):=II
     have RH0:Hid (hi≤wr.heap.size):=RA.out.hh;have RP0:Hid (p<wr.heap.size):=zcv RA.out.hp;have rh0:=RA.out.hh;have rp0:=zcv RA.out.hp;go_upto_region 11 with (fail);go_cut [8,9] (fun s5 s6 wx=>∃ (y:Nat) (X:DNetwork × Int) (u0 u1 u2 u3:Value) (lj hj:Nat),s5=.pointer (some ⟨y,0,none⟩)∧s6=J X.2∧(X.2=0→NetD X.1)∧p<lj∧hj≤wx.heap.size∧wx.heap[y]? = some (.cells #[u0,u1,u2,u3] 32 (0,0))∧NwP lj hj wx X.1 u0 u1 u2 u3∧SpB wx lj hj 119 4 u0 X.1.sites.length∧SpB wx lj hj 43 9 u1 X.1.sectors.length∧NwS b k ((156+16*(5-m))+16) w wx q p lo hi 32 n (IZ A0 n.sites.length C0) (IZ A1 n.sectors.length C1) (IZ A2 n.antennas.length C2) (IZ A3 n.radios.length C3))
     case first =>
      refine zas 10 (.read 0 (.read 1 (.two 2 7 (.two 3 7 (.read 4 (.read 5 (.read 6 (.one 7 (.one 8 (.one 9 .nil)))))) (.one 3 (.read 4 (.read 5 (.read 6 (.one 8 (.one 9 .nil))))))) (.one 2 (.one 3 (.read 4 (.read 5 (.read 6 (.one 8 (.one 9 .nil)))))))))) (fun W=>(W,p,0,IZ A0 n.sites.length C0)∧(W,p,1,IZ A1 n.sectors.length C1)∧(W,p,2,IZ A2 n.antennas.length C2)∧(W,p,3,IZ A3 n.radios.length C3)) JI JI ⟨bkC RA.out.hp 0 rfl,bkC RA.out.hp 1 rfl,bkC RA.out.hp 2 rfl,bkC RA.out.hp 3 rfl⟩ ?_;replace RA:=IJ (RA.out.below (zbl wr));have zd:wr.heap.size≤wr.drew.heap.size:=Nat.le_refl _;generalize wr.drew=Y at *
      repeat' (first
       | (refine zak (v:=?_) rfl (fun _ _ _ h=>h) ?_ ?_;rotate_left;focus (intro W hSW;(try dsimp only at hSW);(go_simp<;>with_reducible rfl));(try simp only[Act.put,OO,OJ,OQ]))
       | ((first|refine zaf ?_|refine zbv ?_ ?_)<;>(first|(refine zae (i:=2) rfl (fun K hK=>?_);go_simp;obtain⟨kk,ka,kb,SS⟩:=RA.out.src;refine (l14DrawSector_any b kk _ SS II).mono ?_;rintro e Z ⟨x,hx,rfl,hq⟩;have HX:=IJ hx;have bp_:b<p:=(by have:=RA.out.bl;have:=RA.out.lq;have:=RA.out.qp;omega);replace RA:=IJ (RA.out.call ka kb hq);obtain⟨_,_,_,_,cq⟩:=hq;have zz:=cq.size;(try replace KY:=IJ ((cq.block y II Q41).trans KY.out));refine hK.out _ _ ⟨bkC RA.out.hp 0 rfl,bkC RA.out.hp 1 rfl,bkC RA.out.hp 2 rfl,bkC RA.out.hp 3 rfl⟩ ?_;clear hK K hx SS ka kb cq;(try simp only[Act.put,OO,OJ,OQ]);rename World=>Y)|(refine zae (i:=3) rfl (fun K hK=>?_);go_simp;have nsm:=netB_small RA.out.ok.ok;have xsm:=sectorB_small HX.out;refine (sAddSector_sp n x _ _ _ _ _ (RA.out.row.rd.1.mono RA.out.hh) (RA.out.row.rd.2.1.mono RA.out.hh) (RA.out.row.rd.2.2.1.mono RA.out.hh) (RA.out.row.rd.2.2.2.mono RA.out.hh) nsm.2.1 nsm.1 xsm.2 xsm.1).mono ?_;rintro e Z ⟨a0,c0,a1,c1,a2,c2,a3,c3,fp,rfl,hb,ov,iv,s0,s1⟩;have HN:Hid ((zbb n x).2=0→NetD (zbb n x).1):=(fun h=>(NetD.sector RA.out.ok h).1);generalize zbb n x=X at *;replace RA:=IJ (RA.out.below hb);(try replace KY:=IJ (bkB KY.out hb II));obtain⟨lj,hlj⟩:∃ lj,lj=Y.heap.size:=⟨_,rfl⟩;obtain⟨hj,hhj⟩:∃ hj,hj=Z.heap.size:=⟨_,rfl⟩;have lj1:=Nat.le_of_eq hlj;have lj2:=Nat.le_of_eq hlj.symm;have hj1:=Nat.le_of_eq hhj;have hj2:=Nat.le_of_eq hhj.symm;rw[← hlj,← hhj] at iv s0 s1;clear hlj hhj;have zz:=hb.size;have RP:Hid (NwP lj hj Z X.1 (IZ a0 X.1.sites.length c0) (IZ a1 X.1.sectors.length c1) (IZ a2 X.1.antennas.length c2) (IZ a3 X.1.radios.length c3)):=⟨fp,ov,iv⟩;have S0:=IJ s0;have S1:=IJ s1;refine hK.out _ _ ⟨bkC RA.out.hp 0 rfl,bkC RA.out.hp 1 rfl,bkC RA.out.hp 2 rfl,bkC RA.out.hp 3 rfl⟩ ?_;clear hK K hb ov iv s0 s1 nsm xsm HX;(try simp only[Act.put,OO,OJ,OQ]);rename World=>Y)|(refine zae (i:=7) rfl (fun K hK=>?_);go_simp;have b_:OI Y Y (Y.alloc (.cells () 32)):=zao _ _;replace RA:=IJ (RA.out.below b_);(try replace RP:=IJ (RP.out.frame (fun x _ hx=>b_.block x II)));(try replace S0:=IJ (S0.out.frame (fun x _ hx=>b_.block x II)));(try replace S1:=IJ (S1.out.frame (fun x _ hx=>b_.block x II)));refine hK.out _ _ ⟨bkC RA.out.hp 0 rfl,bkC RA.out.hp 1 rfl,bkC RA.out.hp 2 rfl,bkC RA.out.hp 3 rfl⟩ ?_;clear hK K;(try simp only[Act.put,OO,OJ,OQ]);have KY:=IJ (bkN Y () 32);have zz:Y.heap.size+1≤(Y.alloc (.cells () 32)).heap.size:=Q4a;clear b_;generalize (Y.alloc (.cells () 32))=Z at *;obtain⟨y,hy⟩:∃ y,y=Y.heap.size:=⟨_,rfl⟩;rw[← hy] at KY ⊢;have y1:=Nat.le_of_eq hy;have y2:=Nat.le_of_eq hy.symm;clear hy;rename World=>Y)|(refine zae (i:=8) rfl (fun K hK=>?_);obtain⟨g0,g1,g2,g3,fz⟩:=bz4 KY.out;go_simp;have RB:=IJ (((((RA.out.setO (y:=y) Q3w Q3x 0 (IZ a0 X.1.sites.length c0)).setO (y:=y) Q3w Q3x 1 (IZ a1 X.1.sectors.length c1)).setO (y:=y) Q3w Q3x 2 (IZ a2 X.1.antennas.length c2)).setO (y:=y) Q3w Q3x 3 (IZ a3 X.1.radios.length c3)));refine hK.out _ _ ⟨bkC RB.out.hp 0 rfl,bkC RB.out.hp 1 rfl,bkC RB.out.hp 2 rfl,bkC RB.out.hp 3 rfl⟩ ?_;clear hK K RA g0 g1 g2 g3 fz;(try simp only[Act.put,OO,OJ,OQ]);have kf_:Hid (((((Y.setCell ⟨y,0,none⟩ (IZ a0 X.1.sites.length c0)).setCell ⟨y,1,none⟩ (IZ a1 X.1.sectors.length c1)).setCell ⟨y,2,none⟩ (IZ a2 X.1.antennas.length c2)).setCell ⟨y,3,none⟩ (IZ a3 X.1.radios.length c3)).heap[y]? = some (.cells #[IZ a0 X.1.sites.length c0,IZ a1 X.1.sectors.length c1,IZ a2 X.1.antennas.length c2,IZ a3 X.1.radios.length c3] 32 (0,0))):=Q2g;replace RP:=IJ (RP.out.frame (fun x h1 h2=>Q2f));replace S0:=IJ (S0.out.frame (fun x h1 h2=>Q2f));replace S1:=IJ (S1.out.frame (fun x h1 h2=>Q2f));have zz:((((Y.setCell ⟨y,0,none⟩ (IZ a0 X.1.sites.length c0)).setCell ⟨y,1,none⟩ (IZ a1 X.1.sectors.length c1)).setCell ⟨y,2,none⟩ (IZ a2 X.1.antennas.length c2)).setCell ⟨y,3,none⟩ (IZ a3 X.1.radios.length c3)).heap.size=Y.heap.size:=(by simp only[zac]);have zy1:=Nat.le_of_eq zz;have zy2:=Nat.le_of_eq zz.symm;clear zz KY;generalize ((((Y.setCell ⟨y,0,none⟩ (IZ a0 X.1.sites.length c0)).setCell ⟨y,1,none⟩ (IZ a1 X.1.sectors.length c1)).setCell ⟨y,2,none⟩ (IZ a2 X.1.antennas.length c2)).setCell ⟨y,3,none⟩ (IZ a3 X.1.radios.length c3))=Z at *;rename World=>Y)|(refine zae (i:=9) rfl (fun K hK=>?_);go_simp;refine hK.out _ _ ⟨bkC RB.out.hp 0 rfl,bkC RB.out.hp 1 rfl,bkC RB.out.hp 2 rfl,bkC RB.out.hp 3 rfl⟩ ?_;clear hK K;(try simp only[Act.put,OO,OJ,OQ]))))
       | (refine zat ?_;simp only[List.drop_succ_cons,List.drop_zero];go_wp2_with fail;go_meet;exact⟨y,X,_,_,_,_,lj,hj,rfl,rfl,HN.out,Q3x,II,kf_.out,RP.out,S0.out,S1.out,RB.out⟩))
     case rest =>
      exact Q0n
  ·have hmi:(m:Int) > 0:=II
   have hmp:0<(m:Int):=II
   have RH0:Hid (hi≤wr.heap.size):=RA.out.hh;have RP0:Hid (p<wr.heap.size):=zcv RA.out.hp;have rh0:=RA.out.hh;have rp0:=zcv RA.out.hp;go_upto_region 5 with (fail);go_cut [5,6] (fun s5 s6 wx=>∃ (y:Nat) (X:DNetwork × Int) (u0 u1 u2 u3:Value) (lj hj:Nat),s5=.pointer (some ⟨y,0,none⟩)∧s6=J X.2∧(X.2=0→NetD X.1)∧p<lj∧hj≤wx.heap.size∧wx.heap[y]? = some (.cells #[u0,u1,u2,u3] 32 (0,0))∧NwP lj hj wx X.1 u0 u1 u2 u3∧SpB wx lj hj 119 4 u0 X.1.sites.length∧SpB wx lj hj 43 9 u1 X.1.sectors.length∧NwS b k ((122+8*(4-m))+8) w wx q p lo hi 32 n (IZ A0 n.sites.length C0) (IZ A1 n.sectors.length C1) (IZ A2 n.antennas.length C2) (IZ A3 n.radios.length C3))
   case first =>
    refine zas 10 (.read 0 (.read 1 (.two 2 7 (.two 3 7 (.read 4 (.read 5 (.read 6 (.one 7 (.one 8 (.one 9 .nil)))))) (.one 3 (.read 4 (.read 5 (.read 6 (.one 8 (.one 9 .nil))))))) (.one 2 (.one 3 (.read 4 (.read 5 (.read 6 (.one 8 (.one 9 .nil)))))))))) (fun W=>(W,p,0,IZ A0 n.sites.length C0)∧(W,p,1,IZ A1 n.sectors.length C1)∧(W,p,2,IZ A2 n.antennas.length C2)∧(W,p,3,IZ A3 n.radios.length C3)) JI JI ⟨bkC RA.out.hp 0 rfl,bkC RA.out.hp 1 rfl,bkC RA.out.hp 2 rfl,bkC RA.out.hp 3 rfl⟩ ?_;replace RA:=IJ (RA.out.below (zbl wr));have zd:wr.heap.size≤wr.drew.heap.size:=Nat.le_refl _;generalize wr.drew=Y at *
    repeat' (first
     | (refine zak (v:=?_) rfl (fun _ _ _ h=>h) ?_ ?_;rotate_left;focus (intro W hSW;(try dsimp only at hSW);(go_simp<;>with_reducible rfl));(try simp only[Act.put,OO,OJ,OQ]))
     | ((first|refine zaf ?_|refine zbv ?_ ?_)<;>(first|(refine zae (i:=2) rfl (fun K hK=>?_);go_simp;obtain⟨kk,ka,kb,SS⟩:=RA.out.src;refine (l14DrawSite_any b kk _ SS II).mono ?_;rintro e Z ⟨x,hx,rfl,hq⟩;have HX:=IJ hx;have bp_:b<p:=(by have:=RA.out.bl;have:=RA.out.lq;have:=RA.out.qp;omega);replace RA:=IJ (RA.out.call ka kb hq);obtain⟨_,_,_,_,cq⟩:=hq;have zz:=cq.size;(try replace KY:=IJ ((cq.block y II Q41).trans KY.out));refine hK.out _ _ ⟨bkC RA.out.hp 0 rfl,bkC RA.out.hp 1 rfl,bkC RA.out.hp 2 rfl,bkC RA.out.hp 3 rfl⟩ ?_;clear hK K hx SS ka kb cq;(try simp only[Act.put,OO,OJ,OQ]);rename World=>Y)|(refine zae (i:=3) rfl (fun K hK=>?_);go_simp;have nsm:=netB_small RA.out.ok.ok;have xsm:=siteB_small HX.out;refine (sAddSite_sp n x _ _ _ _ _ (RA.out.row.rd.1.mono RA.out.hh) (RA.out.row.rd.2.1.mono RA.out.hh) (RA.out.row.rd.2.2.1.mono RA.out.hh) (RA.out.row.rd.2.2.2.mono RA.out.hh) nsm.2.1 nsm.1 xsm.2 xsm.1).mono ?_;rintro e Z ⟨a0,c0,a1,c1,a2,c2,a3,c3,fp,rfl,hb,ov,iv,s0,s1⟩;have HN:Hid ((za0 n x).2=0→NetD (za0 n x).1):=(fun h=>(NetD.site RA.out.ok h).1);generalize za0 n x=X at *;replace RA:=IJ (RA.out.below hb);(try replace KY:=IJ (bkB KY.out hb II));obtain⟨lj,hlj⟩:∃ lj,lj=Y.heap.size:=⟨_,rfl⟩;obtain⟨hj,hhj⟩:∃ hj,hj=Z.heap.size:=⟨_,rfl⟩;have lj1:=Nat.le_of_eq hlj;have lj2:=Nat.le_of_eq hlj.symm;have hj1:=Nat.le_of_eq hhj;have hj2:=Nat.le_of_eq hhj.symm;rw[← hlj,← hhj] at iv s0 s1;clear hlj hhj;have zz:=hb.size;have RP:Hid (NwP lj hj Z X.1 (IZ a0 X.1.sites.length c0) (IZ a1 X.1.sectors.length c1) (IZ a2 X.1.antennas.length c2) (IZ a3 X.1.radios.length c3)):=⟨fp,ov,iv⟩;have S0:=IJ s0;have S1:=IJ s1;refine hK.out _ _ ⟨bkC RA.out.hp 0 rfl,bkC RA.out.hp 1 rfl,bkC RA.out.hp 2 rfl,bkC RA.out.hp 3 rfl⟩ ?_;clear hK K hb ov iv s0 s1 nsm xsm HX;(try simp only[Act.put,OO,OJ,OQ]);rename World=>Y)|(refine zae (i:=7) rfl (fun K hK=>?_);go_simp;have b_:OI Y Y (Y.alloc (.cells () 32)):=zao _ _;replace RA:=IJ (RA.out.below b_);(try replace RP:=IJ (RP.out.frame (fun x _ hx=>b_.block x II)));(try replace S0:=IJ (S0.out.frame (fun x _ hx=>b_.block x II)));(try replace S1:=IJ (S1.out.frame (fun x _ hx=>b_.block x II)));refine hK.out _ _ ⟨bkC RA.out.hp 0 rfl,bkC RA.out.hp 1 rfl,bkC RA.out.hp 2 rfl,bkC RA.out.hp 3 rfl⟩ ?_;clear hK K;(try simp only[Act.put,OO,OJ,OQ]);have KY:=IJ (bkN Y () 32);have zz:Y.heap.size+1≤(Y.alloc (.cells () 32)).heap.size:=Q4a;clear b_;generalize (Y.alloc (.cells () 32))=Z at *;obtain⟨y,hy⟩:∃ y,y=Y.heap.size:=⟨_,rfl⟩;rw[← hy] at KY ⊢;have y1:=Nat.le_of_eq hy;have y2:=Nat.le_of_eq hy.symm;clear hy;rename World=>Y)|(refine zae (i:=8) rfl (fun K hK=>?_);obtain⟨g0,g1,g2,g3,fz⟩:=bz4 KY.out;go_simp;have RB:=IJ (((((RA.out.setO (y:=y) Q3w Q3x 0 (IZ a0 X.1.sites.length c0)).setO (y:=y) Q3w Q3x 1 (IZ a1 X.1.sectors.length c1)).setO (y:=y) Q3w Q3x 2 (IZ a2 X.1.antennas.length c2)).setO (y:=y) Q3w Q3x 3 (IZ a3 X.1.radios.length c3)));refine hK.out _ _ ⟨bkC RB.out.hp 0 rfl,bkC RB.out.hp 1 rfl,bkC RB.out.hp 2 rfl,bkC RB.out.hp 3 rfl⟩ ?_;clear hK K RA g0 g1 g2 g3 fz;(try simp only[Act.put,OO,OJ,OQ]);have kf_:Hid (((((Y.setCell ⟨y,0,none⟩ (IZ a0 X.1.sites.length c0)).setCell ⟨y,1,none⟩ (IZ a1 X.1.sectors.length c1)).setCell ⟨y,2,none⟩ (IZ a2 X.1.antennas.length c2)).setCell ⟨y,3,none⟩ (IZ a3 X.1.radios.length c3)).heap[y]? = some (.cells #[IZ a0 X.1.sites.length c0,IZ a1 X.1.sectors.length c1,IZ a2 X.1.antennas.length c2,IZ a3 X.1.radios.length c3] 32 (0,0))):=Q2g;replace RP:=IJ (RP.out.frame (fun x h1 h2=>Q2f));replace S0:=IJ (S0.out.frame (fun x h1 h2=>Q2f));replace S1:=IJ (S1.out.frame (fun x h1 h2=>Q2f));have zz:((((Y.setCell ⟨y,0,none⟩ (IZ a0 X.1.sites.length c0)).setCell ⟨y,1,none⟩ (IZ a1 X.1.sectors.length c1)).setCell ⟨y,2,none⟩ (IZ a2 X.1.antennas.length c2)).setCell ⟨y,3,none⟩ (IZ a3 X.1.radios.length c3)).heap.size=Y.heap.size:=(by simp only[zac]);have zy1:=Nat.le_of_eq zz;have zy2:=Nat.le_of_eq zz.symm;clear zz KY;generalize ((((Y.setCell ⟨y,0,none⟩ (IZ a0 X.1.sites.length c0)).setCell ⟨y,1,none⟩ (IZ a1 X.1.sectors.length c1)).setCell ⟨y,2,none⟩ (IZ a2 X.1.antennas.length c2)).setCell ⟨y,3,none⟩ (IZ a3 X.1.radios.length c3))=Z at *;rename World=>Y)|(refine zae (i:=9) rfl (fun K hK=>?_);go_simp;refine hK.out _ _ ⟨bkC RB.out.hp 0 rfl,bkC RB.out.hp 1 rfl,bkC RB.out.hp 2 rfl,bkC RB.out.hp 3 rfl⟩ ?_;clear hK K;(try simp only[Act.put,OO,OJ,OQ]))))
     | (refine zat ?_;simp only[List.drop_succ_cons,List.drop_zero];go_wp2_with fail;go_meet;exact⟨y,X,_,_,_,_,lj,hj,rfl,rfl,HN.out,Q3x,II,kf_.out,RP.out,S0.out,S1.out,RB.out⟩))
   case rest =>
    exact Q0n
end Go.Proofs.YtpakghepnahooaaGreatDoor
