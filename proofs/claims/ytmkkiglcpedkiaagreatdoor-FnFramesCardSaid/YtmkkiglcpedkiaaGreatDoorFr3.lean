/- Contract: the register that the reference draws is some valid one. Condition: a place in the source that is not too great. -/
import Derived.Test.YtmkkiglcpedkiaaGreatDoorFr1
import Derived.Test.YtmkkiglcpedkiaaGreatDoorFr2
set_option linter.unusedVariables false
set_option linter.unusedSimpArgs false
namespace Go.Proofs.YtmkkiglcpedkiaaGreatDoor
set_option maxHeartbeats 8000000
set_option maxRecDepth 100000
open Go.RowKit
theorem sizL_flat_le {α:Type} (g:α→List Tr) (c:Nat) (l:List α) (h:∀ x ∈ l,sizL (g x)≤c):sizL (l.flatMap g)≤l.length*c:=by
 induction l with
 | nil=>simp[sizL]
 | cons y l ih =>
  rw[List.flatMap_cons,sizL_append,List.length_cons,Nat.add_mul,Nat.one_mul];have h1:=ih (fun x hx=>h x (by simp[hx]));have h2:=h y (by simp);omega
theorem regB_siz {r:DRegister} (h:regB r=true):sizL r.tr≤1048576:=by
 obtain⟨h1,h2,h3,h4⟩:=regB_small h;rw[DRegister.siz_tr,DRecord.siz_s,DChange.siz_s];have a:=sizL_flat_le DRecord.tr 2000 r.records (fun x hx=>by have:=h3 x hx;simp[DRecord.tr,sizL,siz,strT];omega);have b:=sizL_flat_le DChange.tr 3000 r.changes (fun x hx=>by have:=h4 x hx;simp[DChange.tr,sizL,siz,strT,intT];omega);omega
theorem regB_ok {r:DRegister} (h:regB r=true):r.ok:=by
 obtain⟨h1,h2,h3,h4⟩:=regB_small h;refine⟨fun y hy=>?_,fun y hy=>?_⟩
 ·have:=h3 y hy
  exact⟨by unfold maxLen;omega,by unfold maxLen;omega⟩
 ·have:=h4 y hy
  exact⟨⟨by omega,by omega⟩,by unfold maxLen;omega,by unfold maxLen;omega,by unfold maxLen;omega⟩
def RegP (lo hi:Nat) (w:World) (r:DRegister) (v0 v1:Value):Prop:=∃ fp,OwnV w r.tr [v0,v1] fp∧In lo hi fp
theorem RegP.frame {lo hi:Nat} {w w':World} {r:DRegister} {v0 v1:Value} (h:RegP lo hi w r v0 v1) (hf:∀ b,lo≤b→b<hi→w'.heap[b]? = w.heap[b]?):RegP lo hi w' r v0 v1:=by
 obtain⟨fp,h1,h2⟩:=h;exact⟨fp,h1.frame (fun b hb=>hf b (h2 b hb).1 (h2 b hb).2),h2⟩
theorem RegP.rd {lo hi:Nat} {w:World} {r:DRegister} {v0 v1:Value} (h:RegP lo hi w r v0 v1):Rd hi w (DRecord.sT r.records) v0∧Rd hi w (DChange.sT r.changes) v1:=by
 obtain⟨fp,h1,h2⟩:=h;obtain⟨a,b,e,r1,r2⟩:=DRegister.opn (h1.rd h2);injection e with e1 e2;injection e2 with e2 _;subst e1 e2;exact⟨r1,r2⟩
theorem RegP.mono {lo hi lo' hi':Nat} {w:World} {r:DRegister} {v0 v1:Value} (h:RegP lo hi w r v0 v1) (h1:lo'≤lo) (h2:hi≤hi'):RegP lo' hi' w r v0 v1:=by
 obtain⟨fp,g1,g2⟩:=h;exact⟨fp,g1,g2.mono h1 h2⟩
theorem RegP.form {lo hi:Nat} {w:World} {r:DRegister} {v0 v1:Value} (h:RegP lo hi w r v0 v1):∃ A0 C0 A1 C1,v0=.slice A0 r.records.length C0∧v1=.slice A1 r.changes.length C1:=by
 obtain⟨A0,C0,e0,_,_,_⟩:=DRecord.rd h.rd.1;obtain⟨A1,C1,e1,_,_,_⟩:=DChange.rd h.rd.2;exact⟨A0,C0,A1,C1,e0,e1⟩
structure RgS (b k c:Nat) (w0 w:World) (q p hi T:Nat) (r:DRegister) (v0 v1:Value):Prop where
 src:∃ k',k≤k'∧k'≤k+c∧Src w b k'
 chg:Chg [b] w0 w
 hq:w.heap[q]? = some (.cells #[.slice none 0 0,.slice none 0 0] T (0,0))
 hp:w.heap[p]? = some (.cells #[v0,v1] T (0,0))
 bl:b<w0.heap.size
 lq:w0.heap.size≤q
 qp:q<p
 hh:hi≤w.heap.size
 row:RegP (p+1) hi w r v0 v1
 ok:regB r=true
section
variable {b k c q p hi T:Nat} {w0 w w':World} {r:DRegister} {v0 v1:Value}
theorem blk_lt {w:World} {r:Nat} {o:Obj} (h:w.heap[r]? = some o):r<w.heap.size:=(Array.getElem?_eq_some_iff.1 h).1
theorem RgS.below (h:RgS b k c w0 w q p hi T r v0 v1) (hb:Below w.heap.size w w'):RgS b k c w0 w' q p hi T r v0 v1:=by
 obtain⟨k',h1,h2,S⟩:=h.src;have:=h.hh;have:=hb.size;exact⟨⟨k',h1,h2,S.below S.lt hb⟩,h.chg.trans (Chg.of_below hb),bkB h.hq hb (blk_lt h.hq),bkB h.hp hb (blk_lt h.hp),h.bl,h.lq,h.qp,by omega,h.row.frame (fun x _ hx=>hb.block x (by omega)),h.ok⟩
theorem RgS.call {k1 d:Nat} (h:RgS b k c w0 w q p hi T r v0 v1) (h1:k≤k1) (h2:k1≤k+c) (g:SrcQ b k1 d w w'):RgS b k (c+d) w0 w' q p hi T r v0 v1:=by
 obtain⟨k2,g1,g2,S,C⟩:=g;have:=h.bl;have:=h.lq;have:=h.qp;have:=h.hh;have:=C.size;exact⟨⟨k2,by omega,by omega,S⟩,h.chg.trans C,(C.block _ (blk_lt h.hq) (by simp<;>omega)).trans h.hq,(C.block _ (blk_lt h.hp) (by simp<;>omega)).trans h.hp,h.bl,h.lq,h.qp,by omega,h.row.frame (fun x h1 hx=>C.block x (by omega) (by simp<;>omega)),h.ok⟩
theorem RgS.more {d:Nat} (h:RgS b k c w0 w q p hi T r v0 v1) (hd:c≤d):RgS b k d w0 w q p hi T r v0 v1:=by
 obtain⟨k',h1,h2,S⟩:=h.src;exact⟨⟨k',h1,by omega,S⟩,h.chg,h.hq,h.hp,h.bl,h.lq,h.qp,h.hh,h.row,h.ok⟩
theorem RgS.setO (h:RgS b k c w0 w q p hi T r v0 v1) {y:Nat} (hy:hi≤y) (hp:p<y) (j:Nat) (v:Value):RgS b k c w0 (w.setCell ⟨y,j,none⟩ v) q p hi T r v0 v1:=by
 obtain⟨k',h1,h2,S⟩:=h.src;have:=h.bl;have:=h.lq;have:=h.qp;have:=h.hh;refine⟨⟨k',h1,h2,S.below (B:=b+1) (by omega) ((Below.refl (b+1) w).setCell (p:=⟨y,j,none⟩) (by show b+1≤y;omega) v)⟩,⟨h.chg.os,h.chg.tape,h.chg.output,by rw[size_setCell];exact h.chg.size,fun x hx hn=>?_⟩,bkO h.hq (p:=⟨y,j,none⟩) (by show q≠y;omega) v,bkO h.hp (p:=⟨y,j,none⟩) (by show p≠y;omega) v,h.bl,h.lq,h.qp,by rw[size_setCell];omega,h.row.frame (fun x _ hx=>bkO rfl (p:=⟨y,j,none⟩) (by show x≠y;omega) v),h.ok⟩;rw[bkO rfl (p:=⟨y,j,none⟩) (by show x≠y;omega) v];exact h.chg.block x hx hn
theorem RgS.put (h:RgS b k c w0 w q p hi T r v0 v1) {hj:Nat} {x:DRegister} {u0 u1:Value} (hx:regB x=true) (hjw:hj≤w.heap.size) (R:RegP (p+1) hj w x u0 u1):RgS b k c w0 ((w.setCell ⟨p,0,none⟩ u0).setCell ⟨p,1,none⟩ u1) q p hj T x u0 u1:=by
 obtain⟨k',h1,h2,S⟩:=h.src;have:=h.bl;have:=h.lq;have:=h.qp;have hbb:Below p w ((w.setCell ⟨p,0,none⟩ u0).setCell ⟨p,1,none⟩ u1):=((Below.refl p w).setCell (p:=⟨p,0,none⟩) (Nat.le_refl _) u0).setCell (p:=⟨p,1,none⟩) (Nat.le_refl _) u1;have hpp:=bkS (bkS h.hp 0 u0) 1 u1;refine⟨⟨k',h1,h2,S.below (B:=p) (by omega) hbb⟩,⟨hbb.os.trans h.chg.os,hbb.tape.trans h.chg.tape,hbb.output.trans h.chg.output,by have:=hbb.size;have:=h.chg.size;omega,fun y hy hn=>(hbb.block y (by omega)).trans (h.chg.block y hy hn)⟩,(hbb.block _ h.qp).trans h.hq,hpp,h.bl,h.lq,h.qp,by simpa using hjw,R.frame (fun y hy _=>?_),hx⟩;rw[bkO rfl (p:=⟨p,1,none⟩) (by show y≠p;omega) u1,bkO rfl (p:=⟨p,0,none⟩) (by show y≠p;omega) u0]
end
theorem regB_nil:regB ⟨[],[]⟩=true:=by decide
def DrawRg (b k m:Nat) (w:World) (e:Ending) (w':World):Prop:=∃ (r:DRegister) (v0 v1:Value),regB r=true∧e=.returned (.agg #[v0,v1])∧RegP w.heap.size w'.heap.size w' r v0 v1∧SrcQ b k m w w'
theorem l28Draw_any (b k:Nat) (w:World) (h:Src w b k) (hk:k≤1000000):Calls Tryz.prog 14 #[.pointer (some ⟨b,0,none⟩)] w (DrawRg b k 100 w):=by
 have yb:=h.lt;have HS:=Lib.hid h;clear h;go_enter Tryz.func14,Tryz.ntmps14;go_upto_region 2 with (fail);obtain⟨W0,hW0,b0,z0,k0,k1⟩:=boxes2 w #[.slice none 0 0,.slice none 0 0] 27 #[.slice none 0 0,.slice none 0 0] 27;rw[hW0];clear hW0;obtain⟨q,hq⟩:∃ q,q=w.heap.size:=⟨_,rfl⟩
 obtain⟨p,hp⟩:∃ p,p=w.heap.size+1:=⟨_,rfl⟩
 rw[← hq] at k0;rw[← hp] at k1;have R0:Hid (RgS b k 0 w W0 q p 0 27 ⟨[],[]⟩ (.slice none 0 0) (.slice none 0 0)):=⟨⟨k,Nat.le_refl _,Nat.le_refl _,HS.out.below HS.out.lt b0⟩,Chg.of_below b0,k0,k1,yb,by omega,by omega,by omega,⟨[],ownV_nilReg W0,In.nil⟩,regB_nil⟩
 rw[← hp,← hq];clear b0 k0 k1 HS hp hq;go_wp2_with (fail)
 go_at_call 26
 obtain⟨kk,ka,kb,SS⟩:=R0.out.src;refine (pick_pos b kk 100 _ SS (by omega) (by omega) (by omega)).mono ?_;rintro e w1 ⟨⟨d0,hd0,hd1,rfl⟩,hq1⟩;have R1:Hid (RgS b k 2 w w1 q p 0 27 ⟨[],[]⟩ (.slice none 0 0) (.slice none 0 0)):=R0.out.call ka kb hq1;clear R0 SS ka kb hq1;go_wp2_with (fail)
 go_at_call 26
 obtain⟨kk,ka,kb,SS⟩:=R1.out.src;refine (pick_pos b kk 9 _ SS (by omega) (by omega) (by omega)).mono ?_;rintro e w2 ⟨⟨n,hn0,hn1,rfl⟩,hq1⟩;have R2:Hid (RgS b k 4 w w2 q p 0 27 ⟨[],[]⟩ (.slice none 0 0) (.slice none 0 0)):=R1.out.call ka kb hq1;clear R1 SS ka kb hq1;obtain⟨N,rfl⟩:=Int.eq_ofNat_of_zero_le hn0;have hN:N≤8:=by omega
 clear hn0 hn1;go_wp2;go_loopw [4,5] (fun day i wr=>∃ (m:Nat) (d:Int) (r:DRegister) (v0 v1:Value) (hi:Nat),m≤N∧i=.int .i64 (m:Int)∧day=.int .i64 d∧0≤d∧d+20*m≤300∧RgS b k (4+10*(N-m)) w wr q p hi 27 r v0 v1) (fun _ i wr=>(intOf i).toNat)
 case atStart=>exact⟨N,d0,_,_,_,0,Nat.le_refl _,rfl,rfl,hd0,by omega,R2.out.more (by omega)⟩
 case round =>
  obtain⟨m,d,r,v0,v1,hi,hm,rfl,rfl,hdl,hdh,hR⟩:=hrel;have RA:=Lib.hid hR;clear hR R2
  by_cases hm0:m=0
  ·subst hm0
   obtain⟨A0,C0,A1,C1,rfl,rfl⟩:=RA.out.row.form;have t0:=bkC RA.out.hp 0 rfl;have t1:=bkC RA.out.hp 1 rfl;have f0:=bkF RA.out.hq 0;have f1:=bkF RA.out.hq 1;have s0:=bkC RA.out.hq 0 rfl;have s1:=bkC RA.out.hq 1 rfl;go_wp2;refine bodyPost_ret (v:=.agg #[.slice A0 r.records.length C0,.slice A1 r.changes.length C1]) (by simp[results,Tryz.results14,go_sem, *]) rfl ?_;obtain⟨kk,ka,kb,SS⟩:=RA.out.src;have hqp:=RA.out.qp;have hlq:=RA.out.lq;have hh:=RA.out.hh;have hbl:=RA.out.bl;have hbb:Below q wr ((wr.setCell ⟨q,0,none⟩ (.slice A0 r.records.length C0)).setCell ⟨q,1,none⟩ (.slice A1 r.changes.length C1)):=((Below.refl q wr).setCell (p:=⟨q,0,none⟩) (Nat.le_refl _) _).setCell (p:=⟨q,1,none⟩) (Nat.le_refl _) _;refine⟨r,_,_,RA.out.ok,rfl,?_,kk,ka,by omega,SS.below (B:=q) (by omega) hbb,?_⟩
   ·refine (RA.out.row.frame (fun y hy _=>?_)).mono (by omega) (by simpa using hh)
    rw[bkO rfl (p:=⟨q,1,none⟩) (by show y≠q;omega) _,bkO rfl (p:=⟨q,0,none⟩) (by show y≠q;omega) _]
   ·have C:=RA.out.chg
    exact⟨hbb.os.trans C.os,hbb.tape.trans C.tape,hbb.output.trans C.output,by have:=hbb.size;have:=C.size;omega,fun y hy hn=>(hbb.block y (by omega)).trans (C.block y hy hn)⟩
  have hmi:(m:Int) > 0:=by omega
  go_wp2_with (fail)
  go_at_call 26
  obtain⟨kk,ka,kb,SS⟩:=RA.out.src;refine (pick_pos b kk 20 _ SS (by omega) (by omega) (by omega)).mono ?_;rintro e w3 ⟨⟨d1,hd2,hd3,rfl⟩,hq1⟩;have RB:Hid (RgS b k (4+10*(N-m)+2) w w3 q p hi 27 r v0 v1):=RA.out.call ka kb hq1;clear RA SS ka kb hq1;go_wp2_with (fail)
  go_at_call 27
  obtain⟨kk,ka,kb,SS⟩:=RB.out.src;refine (l28DrawKey_any b kk _ SS (by omega)).mono ?_;rintro e w4 ⟨key,hkey,rfl,hq1⟩;have RC:Hid (RgS b k (4+10*(N-m)+2+2) w w4 q p hi 27 r v0 v1):=RB.out.call ka kb hq1;clear RB SS ka kb hq1;go_wp2_with (fail)
  go_at_call 28
  obtain⟨kk,ka,kb,SS⟩:=RC.out.src;refine (l28DrawValue_any b kk _ SS (by omega)).mono ?_;rintro e w5 ⟨value,hval,rfl,hq1⟩;have RD:Hid (RgS b k (4+10*(N-m)+2+2+4) w w5 q p hi 27 r v0 v1):=RC.out.call ka kb hq1;clear RC SS ka kb hq1;obtain⟨D,hD⟩:∃ D,D=d+d1:=⟨_,rfl⟩
  have hD0:0≤D:=by omega
  have hD1:D+20*((m-1:Nat):Int)≤300:=by omega
  rw[← hD];clear hdl hdh hd2 hd3 hD;have t0:=bkC RD.out.hp 0 rfl;have t1:=bkC RD.out.hp 1 rfl;have HOK:=Lib.hid (fun h5=>setRecR_ok (key:=key) (value:=value) (day:=D) RD.out.ok h5);have CS:=Lib.hid (sSetRecord_std r key value D v0 v1 w5 (RD.out.row.rd.1.mono RD.out.hh) (RD.out.row.rd.2.mono RD.out.hh) (regB_siz RD.out.ok) (regB_ok RD.out.ok) (by omega) (by omega) ⟨by omega,by omega⟩);go_wp2_with (fail)
  go_at_call 29
  refine CS.out.mono ?_;rintro e w6 ⟨a0,c0,a1,c1,fp,rfl,hb,ov,iv⟩;clear CS t0 t1;generalize setRecR r key value D=WR at *;have RE:=Lib.hid (RD.out.below hb);have RP:Hid (RegP (p+1) w6.heap.size w6 WR.1 (.slice a0 WR.1.records.length c0) (.slice a1 WR.1.changes.length c1)):=⟨fp,ov,iv.mono (by have:=blk_lt RD.out.hp;omega) (Nat.le_refl _)⟩
  clear RD hb ov iv;go_upto_region 10 with (fail);obtain⟨W7,hW7,b7,z7,k7⟩:=boxes1 w6 #[.slice a0 WR.1.records.length c0,.slice a1 WR.1.changes.length c1] 27;rw[hW7];clear hW7;have RF:=Lib.hid (RE.out.below b7);have RP7:=Lib.hid (RP.out.frame (fun x _ hx=>b7.block x hx));obtain⟨y,hy⟩:∃ y,y=w6.heap.size:=⟨_,rfl⟩
  rw[← hy] at k7 RP7 ⊢;have yw:y<W7.heap.size:=by omega
  have K7:=Lib.hid k7;have yh:hi≤y:=by have:=RE.out.hh;omega
  have yp:p<y:=by have:=blk_lt RE.out.hp;omega
  clear b7 k7 RE RP hy z7;go_wp2_with (fail)
  go_at_call 30
  obtain⟨kk,ka,kb,SS⟩:=RF.out.src;refine (one_any b kk 5 _ SS (by omega) ⟨by omega,by omega⟩).mono ?_;rintro e w8 ⟨⟨cd,rfl⟩,hq1⟩;have RG:Hid (RgS b k (4+10*(N-m)+2+2+4+2) w w8 q p hi 27 r v0 v1):=RF.out.call ka kb hq1;obtain⟨_,_,_,_,cq⟩:=hq1;have hbp:b<p:=by have:=RG.out.bl;have:=RG.out.lq;have:=RG.out.qp;omega
  have RP8:=Lib.hid (RP7.out.frame (w':=w8) (fun x h1 hx=>cq.block x (by omega) (by simp<;>omega)));have K8:=Lib.hid ((cq.block _ (by omega) (by simp<;>omega)).trans K7.out);have z8:=cq.size;clear RF SS ka kb cq RP7 K7;go_upto_if 36 with (fail);go_cut [9] (fun s9 wx=>∃ (x:DRegister × Int) (u0 u1:Value) (hj:Nat),s9=.int .i64 x.2∧(x.2=0→regB x.1=true)∧hj≤wx.heap.size∧wx.heap[y]? = some (.cells #[u0,u1] 27 (0,0))∧RegP (p+1) hj wx x.1 u0 u1∧RgS b k (4+10*(N-m)+2+2+4+2) w wx q p hi 27 r v0 v1)
  case first =>
   cases cd with
   | false =>
    go_wp2;go_meet;exact⟨WR,_,_,y,rfl,HOK.out,by omega,K8.out,RP8.out,RG.out⟩
   | true =>
    have t0:=bkC RG.out.hp 0 rfl;have t1:=bkC RG.out.hp 1 rfl;have HOD:=Lib.hid (fun h5=>dropRecR_ok (key:=key) (day:=D) RG.out.ok h5);have CD:=Lib.hid (sDropRecord_any r key D v0 v1 w8 (RG.out.row.rd.1.mono RG.out.hh) (RG.out.row.rd.2.mono RG.out.hh) RG.out.ok (regB_ok RG.out.ok) (by omega) ⟨by omega,by omega⟩);go_wp2_with (fail)
    go_at_call 31
    refine CD.out.mono ?_;rintro e w9 ⟨a2,c2,a3,c3,fq,rfl,hb,ov,iv⟩;clear CD t0 t1 HOK RP8;generalize dropRecR r key D=WD at *;have RH:=Lib.hid (RG.out.below hb);have RP9:Hid (RegP w8.heap.size w9.heap.size w9 WD.1 (.slice a2 WD.1.records.length c2) (.slice a3 WD.1.changes.length c3)):=⟨fq,ov,iv⟩
    have K9:=Lib.hid (bkB K8.out hb (by omega));have z9:=hb.size;clear RG K8 hb ov iv;have f0:=bkF K9.out 0;have f1:=bkF K9.out 1;have s0:=bkC K9.out 0 rfl;have s1:=bkC K9.out 1 rfl;go_wp2;go_meet;refine⟨WD,_,_,w9.heap.size,rfl,HOD.out,by simp,bkS (bkS K9.out 0 _) 1 _,(RP9.out.frame (fun x h1 hx=>?_)).mono (by omega) (Nat.le_refl _),(RH.out.setO yh yp 0 _).setO yh yp 1 _⟩;rw[bkO rfl (p:=⟨y,1,none⟩) (by show x≠y;omega) _,bkO rfl (p:=⟨y,0,none⟩) (by show x≠y;omega) _]
  case rest =>
   obtain⟨x,u0,u1,hj,rfl,hok,hjw,hky,hrp,hrg⟩:=hcut;have HX:=Lib.hid hok;have RP:=Lib.hid hrp;have HJ:=Lib.hid hjw;clear hok hjw hrp HOK K8 RP8 RG;have RG:=Lib.hid hrg;clear hrg;generalize wc=w9 at *;obtain⟨xr,xc⟩:=x
   by_cases hc:xc=0
   ·subst hc
    obtain⟨A0,C0,A1,C1,rfl,rfl⟩:=RP.out.form;have t0:=bkC hky 0 rfl;have t1:=bkC hky 1 rfl;have f0:=bkF RG.out.hp 0;have f1:=bkF RG.out.hp 1;have s0:=bkC RG.out.hp 0 rfl;have s1:=bkC RG.out.hp 1 rfl;clear hky;go_wp2;go_roundw
    case rel=>exact⟨m-1,D,xr,_,_,hj,by omega,by go_num,rfl,hD0,hD1,(RG.out.put (HX.out rfl) HJ.out RP.out).more (by omega)⟩
    case measure=>simp only[intOf];omega
   ·clear hky
    go_wp2;go_roundw
    case rel=>exact⟨m-1,D,r,v0,v1,hi,by omega,by go_num,rfl,hD0,hD1,RG.out.more (by omega)⟩
    case measure=>simp only[intOf];omega
end Go.Proofs.YtmkkiglcpedkiaaGreatDoor
