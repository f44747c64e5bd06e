/- Contracts: LevelRows, for the program. Conditions: bounded sizes; what the tables hold. -/
import Derived.Test.YtpakghepnahooaaGreatDoorLzA
import Derived.Test.YtpakghepnahooaaGreatDoorVs
set_option linter.unusedVariables false
set_option linter.unusedSimpArgs false
namespace Go.Proofs.YtpakghepnahooaaGreatDoor
open Go.RowKit
theorem Q11 {p:Prop} (h:p:=by
 go_upto_region 10 with (fail)
 have o0:=zai (w0:=wr) (show b<wr.heap.size by omega)
 refine zab wr.heap.size wr (Below.refl _ _) JI JI ?_
 repeat (go_big_quiet_step (fail))
 refine wpQuiet_nil ?_
 rintro _ ⟨X,rfl⟩
 have hx_:=zaa wr.heap.size wr X
 clear o0 x0 x1
 generalize over wr.heap.size wr X=U at *
 have BU:=btr BX hx_
 clear hx_
 go_wp2
 go_roundw
 case rel=>exact⟨j+1,II,by go_num,by rw[hs2,HQ.out],by rw[hs2,HQ.out],BU.out⟩
 case measure=>simp[intOf];omega):p:=h
theorem Q1v {p:Prop} (h:p:=by
 go_wp2_with (fail)
 go_roundw
 case rel=>exact⟨j+1,II,by go_num,by rw[hs2,HQ.out],by rw[hs2,HQ.out],BX.out⟩
 case measure=>simp[intOf];omega):p:=h
structure TwoI (w:World) (base E:Nat) (v0 v1:Value) (l0 l1:List Int):Prop where
 g0:Grow w base E 1 v0 l0.length (l0.map intT) []
 g1:Grow w base E 1 v1 l1.length (l1.map intT) []
 d:∀ y,v0.ownBlock=some y→v1.ownBlock≠some y
section
variable {w w':World} {base E:Nat} {v0 v1 v':Value} {l0 l1:List Int}
theorem TwoI.start (w:World) (base E:Nat):TwoI w base E (IZ none 0 0) (IZ none 0 0) [] []:=⟨Grow.nil,Grow.nil,fun y h=>by simp[Value.ownBlock] at h⟩
theorem TwoI.frame (h:TwoI w base E v0 v1 l0 l1) (hf:∀ y,base≤y→y<w.heap.size→w'.heap[y]? = w.heap[y]?):TwoI w' base E v0 v1 l0 l1 :=
 ⟨h.g0.frame (fun g hg=>hf g (h.g0.block hg).1 (h.g0.block hg).2) (fun b hb=>by simp at hb),h.g1.frame (fun g hg=>hf g (h.g1.block hg).1 (h.g1.block hg).2) (fun b hb=>by simp at hb),h.d⟩
theorem TwoI.below (h:TwoI w base E v0 v1 l0 l1) (hb:OI w w w'):TwoI w' base E v0 v1 l0 l1:=h.frame (fun y _ hy=>hb.block y hy)
theorem TwoI.set (h:TwoI w base E v0 v1 l0 l1) {b:Nat} (hb:b<base) (j:Nat) (u:Value):TwoI (w.setCell ⟨b,j,none⟩ u) base E v0 v1 l0 l1 :=
 h.frame (fun y hy _=>Below.heap_setCell w ⟨b,j,none⟩ u y (by show y≠b;omega))
theorem TwoI.sl (h:TwoI w base E v0 v1 l0 l1):∃ a n c,v0=IZ a n c:=by
 obtain⟨a,c,_,e,_,_⟩:=h.g0.toOwn (lo:=base) Q47 In.nil (Nat.le_refl _);exact⟨a,_,c,e⟩
theorem TwoI.swap (h:TwoI w base E v0 v1 l0 l1):TwoI w base E v1 v0 l1 l0:=⟨h.g1,h.g0,fun y h1 h0=>h.d y h0 h1⟩
theorem TwoI.app (h:TwoI w base E v0 v1 l0 l1) {u:Int} (hg:Grow w' base E 1 v' (l0.length+1) (l0.map intT++[intT u]) []) (hk:∀ y,y<w.heap.size→v0.ownBlock≠some y→w'.heap[y]? = w.heap[y]?) (hr:v'.ownBlock=v0.ownBlock∨∃ b,v'.ownBlock=some b∧w.heap.size≤b):TwoI w' base E v' v1 (l0++[u]) l1:=by
 refine⟨by rw[List.length_append,List.map_append];exact hg,h.g1.frame (fun g hg=>hk g (h.g1.block hg).2 (fun e=>h.d g e hg)) (fun b hb=>by simp at hb),fun y hy hn=>?_⟩
 rcases hr with e|⟨b,e,hb⟩
 ·exact h.d y (e ▸ hy) hn
 ·rw[e] at hy
  injection hy with hy;have:=(h.g1.block hn).2;omega
theorem wp_two0 {P:Program} {o:Oper} {a:Act} {K:Act→World→Prop} {Q:Exit→Act→World→Prop} (s x:Operand) (t:TypeId)
  (ho:o.op=.call { callee:=.builtin .append,args:=#[s,x],argTypes:=#[t,t] })
  (i:TypeInfo) (z:Value) (ht:P.underlying t=some (.slice E)) (hi:P.info? E=some i) (hz:i.zero=some z)
  (hsize:i.size=1) (hby:i.bytes=8) (hzs:z.cells.size=1)
  (h:TwoI w base E v0 v1 l0 l1) (u:Int) (b c:Nat) (hs:a.eval s=v0) (hx:a.eval x=IZ (some ⟨b,0,none⟩) 1 c)
  (hb:w.heap[b]? = some (.cells #[J u] E (0,0))) (h63:l0.length≤1048576) (hbase:base≤w.heap.size)
  (hK:∀ v' w',TwoI w' base E v' v1 (l0++[u]) l1→w.heap.size≤w'.heap.size→(∀ y,y<base→w'.heap[y]? = w.heap[y]?)→(∀ y,y<w.heap.size→v0.ownBlock≠some y→w'.heap[y]? = w.heap[y]?)→(∀ (lo:Nat) (w0:World),lo≤base→OI lo w0 w→OI lo w0 w')→K (a.put o.dst v') w'):o.wp P a w K Q:=by
 obtain⟨xs,hxo,hxr⟩:=h.g0.own;have hlt:b<w.heap.size:=by
  rcases Nat.lt_or_ge b w.heap.size with hlt|hge
  ·exact hlt
  ·rw[Array.getElem?_eq_none hge] at hb;cases hb
 have hrd:Reads w w.heap.size 1 (some ⟨b,0,none⟩) 1 [J u]:=by
  refine⟨rfl,fun _=>⟨_,rfl,hlt,fun j q hq=>?_⟩⟩
  match j,hq with
  | 0,hq =>
   have e:(⟨b,0,none⟩:Addr).add 0=⟨b,0,none⟩:=by unfold Addr.add;simp
   rw[e,za9 hb]
   simpa using hq
 refine zeg w s x t ho base E i z 1 8 ht hi hz hsize hby hzs Q47 v0 l0.length xs hs hxo w.heap.size (some ⟨b,0,none⟩) 1 c [J u] hx hrd (fun q hq=>by simp at hq;subst hq;rfl) Q3v II hbase ?_;intro v' w' hown hgr hat;have hg:=h.g0.step (lo:=0) hxo (RepV.lits [J u]) In.nil In.nil List.nodup_nil (fun x hx=>by simp at hx) (fun b hb=>by simp at hb) (fun b _=>by simp) hown hgr hat;refine hK v' w' (h.app hg (fun y hy hn=>hgr.block y hy (fun e=>hn e.symm)) ?_) hgr.size (fun y hy=>hgr.block y II (fun e=>by have:=(h.g0.block e.symm).1;omega)) (fun y hy hn=>hgr.block y hy (fun e=>hn e.symm)) (fun lo w0 hlo hB=>hB.grown hgr II (fun b hb=>by have:=(h.g0.block hb).1;omega))
 rcases hat with e|e
 ·exact Or.inl e
 ·exact Or.inr ⟨_,e,Nat.le_refl _⟩
theorem TwoI.own (h:TwoI w base E v0 v1 l0 l1):∃ a0 c0 a1 c1 fp,v0=IZ a0 l0.length c0∧v1=IZ a1 l1.length c1∧OwnV w [zam l0,zam l1] [IZ a0 l0.length c0,IZ a1 l1.length c1] fp∧In base w fp:=by
 obtain⟨p0,o0,q0,r0⟩:=h.g0.toOwnB Q47 In.nil (Nat.le_refl _);obtain⟨p1,o1,q1,r1⟩:=h.g1.toOwnB Q47 In.nil (Nat.le_refl _);obtain⟨a0,c0,_,e0,_,_⟩:=h.g0.toOwn (lo:=base) Q47 In.nil (Nat.le_refl _);obtain⟨a1,c1,_,e1,_,_⟩:=h.g1.toOwn (lo:=base) Q47 In.nil (Nat.le_refl _);subst e0 e1;refine⟨a0,c0,a1,c1,p0++(p1++[]),rfl,rfl,OwnV.cons o0 (OwnV.cons o1 OwnV.nil (fun y _=>by simp)) (fun y hy hn=>?_),q0.append (q1.append In.nil)⟩;rw[List.append_nil] at hn
 rcases r0 y hy with e|e
 ·rcases r1 y hn with e' | e'
  ·exact h.d y e e'
  ·simp at e'
 ·simp at e
theorem RowF.frame {b off n:Nat} {f:Nat→Int} (h:RowF w b off n f) (he:w'.heap[b]? = w.heap[b]?):RowF w' b off n f:=fun q hq=>by rw[World.cell?_of_block he];exact h q hq
theorem RowF.store {b off n:Nat} {f:Nat→Int} (h:RowF w b off n f) (hf:∀ i,w.frozen? ⟨b,i,none⟩=false) (k:Nat) (hk:k<n) (u:Int):∃ W,w.setCell ⟨b,off+k,none⟩ (J u)=W∧RowF W b off n (fun q=>if q=k then u else f q)∧(∀ i,W.frozen? ⟨b,i,none⟩=false)∧W.heap.size=w.heap.size∧(∀ y,y≠b→W.heap[y]? = w.heap[y]?)∧(∀ w0:World,w0.heap.size≤b→OI w0 w0 w→OI w0 w0 W) :=
 ⟨_,rfl,h.set k hk u,fun i=>by rw[frozen_setCell];exact hf i,zac _ _ _,fun y hy=>Below.heap_setCell _ _ _ _ hy,fun w0 hw hB=>hB.setCell (p:=⟨b,off+k,none⟩) hw _⟩
theorem RowF.same {b off n:Nat} {f g:Nat→Int} (h:RowF w b off n f) (he:∀ q,q<n→f q=g q):RowF w b off n g:=fun q hq=>by rw[h q hq,he q hq]
end
theorem ownV_ras {w:World} {S L:List Int} {va vb:Value} {fp:List Nat} (a b c:Int) (h:OwnV w [zam S,zam L] [va,vb] fp):OwnV w [intT a,intT b,intT c,zam S,zam L] [J a,J b,J c,va,vb] fp :=
 OwnV.consLit (OwnV.consLit (OwnV.consLit h rfl) rfl) rfl
end Go.Proofs.YtpakghepnahooaaGreatDoor
namespace Go.Proofs.YtpakghepnahooaaGreatDoor
open Go.RowKit
set_option maxHeartbeats 16000000
set_option maxRecDepth 100000
theorem bestServers_any (st wd ht least:Int) (m:List (List Int)) (N:Nat) (hN:(N:Int)=wd*ht) (h576:N≤576) (hrow:∀ k,k<m.length→(rowI m k).length=N) (hm:m.length≤24) (vm:Value) (w:World) (rm:Rd w w (intssT m) vm) :
  Calls Tryz.prog 39 #[J st,J wd,J ht,vm,J least] w fun e w'=>∃ (a0:Option Addr) (c0:Nat) (a1:Option Addr) (c1:Nat) (fp:List Nat),e=.returned (.agg #[J st,J wd,J ht,IZ a0 N c0,IZ a1 N c1])∧OI w w w'∧OwnV w' [zam (srvC m least N m.length),zam (lvlC m least N m.length)] [IZ a0 N c0,IZ a1 N c1] fp∧In w w'.heap.size fp:=by
 obtain⟨i0,hi0,hz0,hz1,hz2⟩:=info_parts infoI;have m0:0≤wd*ht:=II
 have m1:wd*ht≤576:=II
 have hmi:(m.length:Int)≤24:=II
 obtain⟨am,cm,em,_,_,hcm⟩:=rm.intss;subst em;have HR:Hid (∀ k,k<m.length→0<N→∃ bm om b off c,am=some ⟨bm,om,none⟩∧bm<w.heap.size∧b<w.heap.size∧∀ W:World,OI w w W→(W,bm,om+k,IZ (some ⟨b,off,none⟩) N c)∧∀ q,q<N→W.cell? ⟨b,off+q,none⟩=some (J (gi (rowI m k) q))):=fun k hk hp=>by
  obtain⟨bm,om,ea,hbm,hat⟩:=hcm II;obtain⟨u,hu,ru⟩:=hat k hk;obtain⟨a,c,eu,_,_,hci⟩:=ru.ints;have hl:=hrow k hk;have hr:rowI m k=m[k]:=by simp[rowI,hk]
  rw[hr] at hl;obtain⟨b,off,eb,hb,hcj⟩:=hci II;subst eu eb;rw[hl] at hu
  exact⟨bm,om,b,off,c,ea,hbm,hb,fun W hW=>⟨(bat hW bm _ hbm).trans hu,fun q hq=>by
   have h:=hcj q II;rw[gi_eq II,← hr] at h
   exact (bat hW b _ hb).trans h⟩⟩
 clear hcm rm hrow;obtain⟨W0,hW0,b0_,z0,k0,k1⟩:=zdv w #[J 0,J 0,J 0,IZ none 0 0,IZ none 0 0] 36 #[J st,J wd,J ht,IZ none 0 0,IZ none 0 0] 36;have HW0:=IJ hW0;have B0:=IJ b0_;have HD:=IJ (fun (W:World) (hW:OI W0 W0 W)=>bx5 k0 hW <| by5 k1 hW);have HB:Hid (OI W0 W0 W0):=Below.refl _ _;have K0:=IJ k0;have K1:=IJ k1;clear k0 k1 hW0 b0_;have HSL:Hid ((srvC m least N m.length).length=N∧(lvlC m least N m.length).length=N):=⟨zda _ _ _ _,zei _ _ _ _⟩
 have HST:Hid (∀ c,c<N→(srvC m least N m.length).take (c+1)=(srvC m least N m.length).take c++[(zb8 m least c m.length).1]∧(lvlC m least N m.length).take (c+1)=(lvlC m least N m.length).take c++[(zb8 m least c m.length).2]):=fun c hc=>⟨srvC_take hc,lvlC_take hc⟩
 generalize srvC m least N m.length=SV at *;generalize lvlC m least N m.length=LV at *;go_enter Tryz.func39,Tryz.ntmps39;go_upto_region 2 with (fail);rw[HW0.out];go_wp2;go_loopw [24] (fun iv wr=>∃ (k:Nat) (v0 v1:Value),k≤N∧iv=J (k:Int)∧OI w w wr∧wr.heap[w.heap.size]? = some (.cells #[J 0,J 0,J 0,IZ none 0 0,IZ none 0 0] 36 (0,0))∧wr.heap[w.heap.size+1]? = some (.cells #[J st,J wd,J ht,v0,v1] 36 (0,0))∧TwoI wr W0.heap.size 2 v0 v1 (SV.take k) (LV.take k)∧W0.heap.size≤wr.heap.size) (fun iv _=>N-(intOf iv).toNat)
 case atStart=>exact⟨0,_,_,Nat.zero_le _,rfl,B0.out,K0.out,K1.out,TwoI.start _ _ _,Nat.le_refl _⟩
 case round =>
  clear HB HD K0 K1;obtain⟨k,v0,v1,hk,rfl,hbw,hk0,hk1,ht,zr⟩:=hrel;have HB:=IJ hbw;have K0:=IJ hk0;have K1:=IJ hk1;have HT:=IJ ht;clear hbw hk0 hk1 ht;have k0:(0:Int)≤(k:Int):=II
  by_cases hlt:k<N
  ·have d1:decide ((k:Int)<wd*ht)=true:=decide_eq_true II
   have k1:(k:Int)<(N:Int):=II
   have HRk:Hid (∀ j,j<m.length→∃ bm om b off c,am=some ⟨bm,om,none⟩∧bm<w.heap.size∧b<w.heap.size∧∀ W:World,OI w w W→(W,bm,om+j,IZ (some ⟨b,off,none⟩) N c)∧(W,b,off+k,J (gi (rowI m j) k))):=fun j hj=>by
    obtain⟨bm,om,b,off,c,e,h1,h2,h3⟩:=HR.out j hj II;exact⟨bm,om,b,off,c,e,h1,h2,fun W hW=>⟨(h3 W hW).1,(h3 W hW).2 k hlt⟩⟩
   obtain⟨hst1,hst2⟩:=HST.out k hlt;have HS1:=IJ hst1;have HS2:=IJ hst2;clear HR HST hst1 hst2;go_wp2;generalize wr=wi at *;go_loopw [13,14,29] (fun sv lv iv wx=>∃ j:Nat,j≤m.length∧iv=J (j:Int)∧sv=J (zb8 m least k j).1∧lv=J (zb8 m least k j).2∧OI wi wi wx) (fun _ _ iv _=>m.length-(intOf iv).toNat)
   case atStart=>exact⟨0,Nat.zero_le _,rfl,rfl,rfl,Below.refl _ _⟩
   case round =>
    obtain⟨j,hj,rfl,rfl,rfl,hbx⟩:=hrel;have BX:=IJ hbx;clear hbx;have j0:(0:Int)≤(j:Int):=II
    by_cases hjt:j<m.length
    ·have j1:(j:Int)<(m.length:Int):=II
     obtain⟨bm,om,b,off,c,rfl,hbm,hb,hc⟩:=HRk.out j hjt;have HBX:=btr HB BX.out;obtain⟨x0,x1⟩:=hc wr HBX.out;have HSC:=IJ (bestC_succ m least k j);generalize hs2:zb8 m least k (j+1)=s2 at *;generalize zb8 m least k j=s1 at *;generalize gi (rowI m j) k=xv at *;clear HRk HS1 HS2 K0 K1 HT;have y1:b<wr.heap.size:=by have:=HBX.out.size;omega
     by_cases hon:least≤xv∧(s1.1<0∨s1.2<xv)
     ·have HQ:=IJ (HSC.out.trans (stepC_on hon.1 hon.2))
      have e0:decide (least≤xv)=true:=decide_eq_true hon.1
      rcases Classical.em (s1.1<0) with e1|e1
      ·have e2:decide (s1.1<0)=true:=decide_eq_true e1
       exact Q11
      ·have e2:decide (s1.1<0)=false:=decide_eq_false e1
       have e3:decide (s1.2<xv)=true:=decide_eq_true II;exact Q11
     ·have HQ:=IJ (HSC.out.trans (stepC_off hon))
      rcases Classical.em (least≤xv) with e1|e1
      ·have e0:decide (least≤xv)=true:=decide_eq_true e1
       have e2:decide (s1.1<0)=false:=decide_eq_false (fun h=>hon ⟨e1,Or.inl h⟩);have e3:decide (s1.2<xv)=false:=decide_eq_false (fun h=>hon ⟨e1,Or.inr h⟩);exact Q1v
      ·have e0:decide (least≤xv)=false:=decide_eq_false e1
       exact Q1v
    ·obtain rfl:j=m.length:=II
     clear HRk;have KX0:=bkH K0 BX.out;have KX1:=bkH K1 BX.out;have HTX:=IJ (HT.out.below BX.out);have HBX:=btr HB BX.out;have zx:=BX.out.size;have hl0:(SV.take k).length≤576:=by have:=List.length_take_le k SV;omega
     have hl1:(LV.take k).length≤576:=by have:=List.length_take_le k LV;omega
     clear K0 K1 HT HB BX HSL;generalize hb1:(zb8 m least k m.length).1=sx at *;generalize hb2:(zb8 m least k m.length).2=lx at *;generalize SV.take k=SK at *;generalize LV.take k=LK at *;clear hb1 hb2;go_upto_region 12 with (fail);have HDS:Hid (∀ W:World,W.heap[w.heap.size+1]? = some (.cells #[J st,J wd,J ht,v0,v1] 36 (0,0))→((W,w.heap.size+1,3,v0)∧(W,w.heap.size+1,4,v1))):=fun W h=>⟨bkC h 3 rfl,bkC h 4 rfl⟩
     refine zdq 14 11 (.pure 0 (.read 1 (.pure 2 (.pure 5 (.read 6 (.pure 7 (.two 3 8 (.two 4 8 (.pure 10 (.one 8 (.one 9 (.one 11 (.pure 12 (.one 13 .nil)))))) (.one 4 (.pure 10 (.one 9 (.one 11 (.pure 12 (.one 13 .nil))))))) (.one 3 (.one 4 (.pure 10 (.one 9 (.one 11 (.pure 12 (.one 13 .nil)))))))))))))) (fun W=>W.heap[(w.heap.size+1)]? = some (.cells #[J st,J wd,J ht,v0,v1] 36 (0,0))) (fun W=>OI w w W) JI JI (KX1.out) (HBX.out.drew) ?_;have YB:=IJ (HBX.out.drew);have Yz:wr.heap.size≤wr.drew.heap.size:=Nat.le_refl _;have Ykr:Hid (wr.drew.heap[(w.heap.size+1)]? = some (.cells #[J st,J wd,J ht,v0,v1] 36 (0,0))):=KX1.out;have Ykz:Hid (wr.drew.heap[w.heap.size]? = some (.cells #[J 0,J 0,J 0,IZ none 0 0,IZ none 0 0] 36 (0,0))):=KX0.out;have Yt:=IJ (HTX.out.frame (w':=wr.drew) (fun _ _ _=>rfl));generalize wr.drew=Y at *;refine zbi (v:=?_) rfl (fun _ _ _ h=>h) ?_ ?_
     rotate_left
     ·exact Q0t
     (try simp only[Act.put,OO,OJ,OQ])
     refine zcz (v:=?_) rfl (fun _ _ _ h=>h) ?_ ?_
     rotate_left
     ·(intro W hSW2 hSW;(try dsimp only at hSW);obtain⟨q3,q4⟩:=HDS.out W hSW;(go_simp<;>with_reducible rfl))
     (try simp only[Act.put,OO,OJ,OQ])
     iterate 2
      refine zbi (v:=?_) rfl (fun _ _ _ h=>h) ?_ ?_
      rotate_left
      ·(intro W hSW2;(go_simp<;>with_reducible rfl))
      (try simp only[Act.put,OO,OJ,OQ])
     refine zcz (v:=?_) rfl (fun _ _ _ h=>h) ?_ ?_
     rotate_left
     ·(intro W hSW2 hSW;(try dsimp only at hSW);obtain⟨q3,q4⟩:=HDS.out W hSW;(go_simp<;>with_reducible rfl))
     (try simp only[Act.put,OO,OJ,OQ])
     refine zbi (v:=?_) rfl (fun _ _ _ h=>h) ?_ ?_
     rotate_left
     ·exact Q0t
     (try simp only[Act.put,OO,OJ,OQ])
     refine wpT2_two false false rfl rfl ?_ ?_;refine za6 rfl (fun K hK=>?_);go_simp;obtain⟨Y1,hW1,hb1,zl1,hk1⟩:=zav Y #[J sx] 2;rw[hW1];have Yks1:=IJ hk1;have YB1:=btr YB hb1;have Ykr1:=bkH Ykr hb1;have Ykz1:=bkH Ykz hb1;have Yt1:=IJ (Yt.out.below hb1);refine hK.out _ _ ⟨YB1.out,fun _=>Ykr1.out⟩ ?_;have bs1:=hb1.size;clear hK K hW1 hk1 hb1;refine wpT2_two false false rfl rfl ?_ ?_;refine za6 rfl (fun K hK=>?_);refine wp_two0 _ _ _ rfl i0 _ Tryz.underlying24 hi0 hz0 hz1 hz2 rfl Yt1.out sx Y.heap.size _ rfl rfl Yks1.out II II ?_;intro va Y2 ht2 hsz2 hlo2 hkp2 hbl2;obtain⟨vap,van,vac,ev_⟩:=ht2.sl;subst ev_;have Yt2:=IJ ht2;have YB2:=IJ (hbl2 _ _ II YB1.out);have Ykr2:=IJ ((hlo2 _ II).trans Ykr1.out);have Ykz2:=IJ ((hlo2 _ II).trans Ykz1.out);refine hK.out _ _ ⟨YB2.out,fun _=>Ykr2.out⟩ ?_;clear hK K ht2 hlo2 hkp2 hbl2;refine zbi (v:=?_) rfl (fun _ _ _ h=>h) ?_ ?_
     rotate_left
     ·exact Q0t
     (try simp only[Act.put,OO,OJ,OQ])
     refine zbr false rfl ?_;refine za6 rfl (fun K hK=>?_);go_simp;obtain⟨Y3,hW3,hb3,zl3,hk3⟩:=zav Y2 #[J lx] 2;rw[hW3];have Ykl3:=IJ hk3;have YB3:=btr YB2 hb3;have Ykr3:=bkH Ykr2 hb3;have Ykz3:=bkH Ykz2 hb3;have Yt3:=IJ (Yt2.out.below hb3);refine hK.out _ _ ⟨YB3.out,fun _=>Ykr3.out⟩ ?_;have bs3:=hb3.size;clear hK K hW3 hk3 hb3;refine zbr false rfl ?_;refine za6 rfl (fun K hK=>?_);refine wp_two0 _ _ _ rfl i0 _ Tryz.underlying24 hi0 hz0 hz1 hz2 rfl Yt3.out.swap lx Y2.heap.size _ rfl rfl Ykl3.out II II ?_;intro vb Y4 ht4 hsz4 hlo4 hkp4 hbl4;obtain⟨vbp,vbn,vbc,ev_⟩:=ht4.sl;subst ev_;have Yt4:=IJ ht4.swap;have YB4:=IJ (hbl4 _ _ II YB3.out);have Ykr4:=IJ ((hlo4 _ II).trans Ykr3.out);have Ykz4:=IJ ((hlo4 _ II).trans Ykz3.out);refine hK.out _ _ ⟨YB4.out,fun _=>Ykr4.out⟩ ?_;clear hK K ht4 hlo4 hkp4 hbl4;refine zbr true rfl ?_;refine za6 rfl (fun K hK=>?_);have g0:=bkC (v:=v0) Ykr4.out 3 rfl;have fz:=bkF Ykr4.out;go_simp;obtain⟨Y5,hW5,hk5,bs5,ho5,hl5⟩:=zfd Ykr4 3 (IZ vap van vac);rw[hW5];have Ykr5:Hid (Y5.heap[(w.heap.size+1)]? = some (.cells #[J st,J wd,J ht,IZ vap van vac,v1] 36 (0,0))):=by show _=_;simpa using hk5.out
     clear hk5;have YB5:=IJ (hl5.out w (by have:=YB4.out.size;omega) YB4.out);have Yt5:=IJ (Yt4.out.frame (fun y h1 _=>ho5.out y II));have Ykz5:=IJ ((ho5.out _ II).trans Ykz4.out);refine hK.out _ _ ⟨YB5.out,fun h=>by cases h⟩ ?_;clear hK K fz hW5 ho5 hl5 g0;refine zbi (v:=?_) rfl (fun _ _ _ h=>h) ?_ ?_
     rotate_left
     ·exact Q0t
     (try simp only[Act.put,OO,OJ,OQ])
     refine zbr true rfl ?_;refine za6 rfl (fun K hK=>?_);have g0:=bkC (v:=v1) Ykr5.out 4 rfl;have fz:=bkF Ykr5.out;go_simp;obtain⟨Y6,hW6,hk6,bs6,ho6,hl6⟩:=zfd Ykr5 4 (IZ vbp vbn vbc);rw[hW6];have Ykr6:Hid (Y6.heap[(w.heap.size+1)]? = some (.cells #[J st,J wd,J ht,IZ vap van vac,IZ vbp vbn vbc] 36 (0,0))):=by show _=_;simpa using hk6.out
     clear hk6;have YB6:=IJ (hl6.out w (by have:=YB5.out.size;omega) YB5.out);have Yt6:=IJ (Yt5.out.frame (fun y h1 _=>ho6.out y II));have Ykz6:=IJ ((ho6.out _ II).trans Ykz5.out);refine hK.out _ _ ⟨YB6.out,fun h=>by cases h⟩ ?_;clear hK K fz hW6 ho6 hl6 g0;refine wpT2_nil ?_;simp only[List.drop_succ_cons,List.drop_zero];go_wp2_with (fail);go_roundw
     case rel=>exact⟨k+1,_,_,II,by go_num,YB6.out,Ykz6.out,Ykr6.out,by rw[HS1.out,HS2.out];exact Yt6.out,II⟩
     case measure=>simp[intOf];omega
     refine za6 rfl (fun K hK=>?_);go_simp;obtain⟨Y7,hW7,hb7,zl7,hk7⟩:=zav Y1 #[J lx] 2;rw[hW7];have Ykl7:=IJ hk7;have YB7:=btr YB1 hb7;have Ykr7:=bkH Ykr1 hb7;have Ykz7:=bkH Ykz1 hb7;have Yks7:=bkH Yks1 hb7;have Yt7:=IJ (Yt1.out.below hb7);refine hK.out _ _ ⟨YB7.out,fun _=>Ykr7.out⟩ ?_;have bs7:=hb7.size;clear hK K hW7 hk7 hb7;refine zbr false rfl ?_;refine za6 rfl (fun K hK=>?_);refine wp_two0 _ _ _ rfl i0 _ Tryz.underlying24 hi0 hz0 hz1 hz2 rfl Yt7.out sx Y.heap.size _ rfl rfl Yks7.out II II ?_;intro va Y8 ht8 hsz8 hlo8 hkp8 hbl8;obtain⟨vap,van,vac,ev_⟩:=ht8.sl;subst ev_;have Yt8:=IJ ht8;have YB8:=IJ (hbl8 _ _ II YB7.out);have Ykr8:=IJ ((hlo8 _ II).trans Ykr7.out);have Ykz8:=IJ ((hlo8 _ II).trans Ykz7.out);have Ykl8:=IJ ((hkp8 _ (Array.getElem?_eq_some_iff.1 Ykl7.out).1 (fun e=>by have:=(Yt.out.g0.block e).2;omega)).trans Ykl7.out);refine hK.out _ _ ⟨YB8.out,fun _=>Ykr8.out⟩ ?_;clear hK K ht8 hlo8 hkp8 hbl8;refine zbi (v:=?_) rfl (fun _ _ _ h=>h) ?_ ?_
     rotate_left
     ·exact Q0t
     (try simp only[Act.put,OO,OJ,OQ])
     refine zbr false rfl ?_;refine za6 rfl (fun K hK=>?_);refine wp_two0 _ _ _ rfl i0 _ Tryz.underlying24 hi0 hz0 hz1 hz2 rfl Yt8.out.swap lx Y1.heap.size _ rfl rfl Ykl8.out II II ?_;intro vb Y9 ht9 hsz9 hlo9 hkp9 hbl9;obtain⟨vbp,vbn,vbc,ev_⟩:=ht9.sl;subst ev_;have Yt9:=IJ ht9.swap;have YB9:=IJ (hbl9 _ _ II YB8.out);have Ykr9:=IJ ((hlo9 _ II).trans Ykr8.out);have Ykz9:=IJ ((hlo9 _ II).trans Ykz8.out);refine hK.out _ _ ⟨YB9.out,fun _=>Ykr9.out⟩ ?_;clear hK K ht9 hlo9 hkp9 hbl9;refine zbr true rfl ?_;refine za6 rfl (fun K hK=>?_);have g0:=bkC (v:=v0) Ykr9.out 3 rfl;have fz:=bkF Ykr9.out;go_simp;obtain⟨Y10,hW10,hk10,bs10,ho10,hl10⟩:=zfd Ykr9 3 (IZ vap van vac);rw[hW10];have Ykr10:Hid (Y10.heap[(w.heap.size+1)]? = some (.cells #[J st,J wd,J ht,IZ vap van vac,v1] 36 (0,0))):=by show _=_;simpa using hk10.out
     clear hk10;have YB10:=IJ (hl10.out w (by have:=YB9.out.size;omega) YB9.out);have Yt10:=IJ (Yt9.out.frame (fun y h1 _=>ho10.out y II));have Ykz10:=IJ ((ho10.out _ II).trans Ykz9.out);refine hK.out _ _ ⟨YB10.out,fun h=>by cases h⟩ ?_;clear hK K fz hW10 ho10 hl10 g0;refine zbi (v:=?_) rfl (fun _ _ _ h=>h) ?_ ?_
     rotate_left
     ·exact Q0t
     (try simp only[Act.put,OO,OJ,OQ])
     refine zbr true rfl ?_;refine za6 rfl (fun K hK=>?_);have g0:=bkC (v:=v1) Ykr10.out 4 rfl;have fz:=bkF Ykr10.out;go_simp;obtain⟨Y11,hW11,hk11,bs11,ho11,hl11⟩:=zfd Ykr10 4 (IZ vbp vbn vbc);rw[hW11];have Ykr11:Hid (Y11.heap[(w.heap.size+1)]? = some (.cells #[J st,J wd,J ht,IZ vap van vac,IZ vbp vbn vbc] 36 (0,0))):=by show _=_;simpa using hk11.out
     clear hk11;have YB11:=IJ (hl11.out w (by have:=YB10.out.size;omega) YB10.out);have Yt11:=IJ (Yt10.out.frame (fun y h1 _=>ho11.out y II));have Ykz11:=IJ ((ho11.out _ II).trans Ykz10.out);refine hK.out _ _ ⟨YB11.out,fun h=>by cases h⟩ ?_;clear hK K fz hW11 ho11 hl11 g0;refine wpT2_nil ?_;simp only[List.drop_succ_cons,List.drop_zero];go_wp2_with (fail);go_roundw
     case rel=>exact⟨k+1,_,_,II,by go_num,YB11.out,Ykz11.out,Ykr11.out,by rw[HS1.out,HS2.out];exact Yt11.out,II⟩
     case measure=>simp[intOf];omega
     refine za6 rfl (fun K hK=>?_);go_simp;obtain⟨Y12,hW12,hb12,zl12,hk12⟩:=zav Y #[J lx] 2;rw[hW12];have Ykl12:=IJ hk12;have YB12:=btr YB hb12;have Ykr12:=bkH Ykr hb12;have Ykz12:=bkH Ykz hb12;have Yt12:=IJ (Yt.out.below hb12);refine hK.out _ _ ⟨YB12.out,fun _=>Ykr12.out⟩ ?_;have bs12:=hb12.size;clear hK K hW12 hk12 hb12;refine zbr false rfl ?_;refine za6 rfl (fun K hK=>?_);go_simp;obtain⟨Y13,hW13,hb13,zl13,hk13⟩:=zav Y12 #[J sx] 2;rw[hW13];have Yks13:=IJ hk13;have YB13:=btr YB12 hb13;have Ykr13:=bkH Ykr12 hb13;have Ykz13:=bkH Ykz12 hb13;have Ykl13:=bkH Ykl12 hb13;have Yt13:=IJ (Yt12.out.below hb13);refine hK.out _ _ ⟨YB13.out,fun _=>Ykr13.out⟩ ?_;have bs13:=hb13.size;clear hK K hW13 hk13 hb13;refine zbr false rfl ?_;refine za6 rfl (fun K hK=>?_);refine wp_two0 _ _ _ rfl i0 _ Tryz.underlying24 hi0 hz0 hz1 hz2 rfl Yt13.out sx Y12.heap.size _ rfl rfl Yks13.out II II ?_;intro va Y14 ht14 hsz14 hlo14 hkp14 hbl14;obtain⟨vap,van,vac,ev_⟩:=ht14.sl;subst ev_;have Yt14:=IJ ht14;have YB14:=IJ (hbl14 _ _ II YB13.out);have Ykr14:=IJ ((hlo14 _ II).trans Ykr13.out);have Ykz14:=IJ ((hlo14 _ II).trans Ykz13.out);have Ykl14:=IJ ((hkp14 _ (Array.getElem?_eq_some_iff.1 Ykl13.out).1 (fun e=>by have:=(Yt.out.g0.block e).2;omega)).trans Ykl13.out);refine hK.out _ _ ⟨YB14.out,fun _=>Ykr14.out⟩ ?_;clear hK K ht14 hlo14 hkp14 hbl14;refine zbi (v:=?_) rfl (fun _ _ _ h=>h) ?_ ?_
     rotate_left
     ·exact Q0t
     (try simp only[Act.put,OO,OJ,OQ])
     refine zbr false rfl ?_;refine za6 rfl (fun K hK=>?_);refine wp_two0 _ _ _ rfl i0 _ Tryz.underlying24 hi0 hz0 hz1 hz2 rfl Yt14.out.swap lx Y.heap.size _ rfl rfl Ykl14.out II II ?_;intro vb Y15 ht15 hsz15 hlo15 hkp15 hbl15;obtain⟨vbp,vbn,vbc,ev_⟩:=ht15.sl;subst ev_;have Yt15:=IJ ht15.swap;have YB15:=IJ (hbl15 _ _ II YB14.out);have Ykr15:=IJ ((hlo15 _ II).trans Ykr14.out);have Ykz15:=IJ ((hlo15 _ II).trans Ykz14.out);refine hK.out _ _ ⟨YB15.out,fun _=>Ykr15.out⟩ ?_;clear hK K ht15 hlo15 hkp15 hbl15;refine zbr true rfl ?_;refine za6 rfl (fun K hK=>?_);have g0:=bkC (v:=v0) Ykr15.out 3 rfl;have fz:=bkF Ykr15.out;go_simp;obtain⟨Y16,hW16,hk16,bs16,ho16,hl16⟩:=zfd Ykr15 3 (IZ vap van vac);rw[hW16];have Ykr16:Hid (Y16.heap[(w.heap.size+1)]? = some (.cells #[J st,J wd,J ht,IZ vap van vac,v1] 36 (0,0))):=by show _=_;simpa using hk16.out
     clear hk16;have YB16:=IJ (hl16.out w (by have:=YB15.out.size;omega) YB15.out);have Yt16:=IJ (Yt15.out.frame (fun y h1 _=>ho16.out y II));have Ykz16:=IJ ((ho16.out _ II).trans Ykz15.out);refine hK.out _ _ ⟨YB16.out,fun h=>by cases h⟩ ?_;clear hK K fz hW16 ho16 hl16 g0;refine zbi (v:=?_) rfl (fun _ _ _ h=>h) ?_ ?_
     rotate_left
     ·exact Q0t
     (try simp only[Act.put,OO,OJ,OQ])
     refine zbr true rfl ?_;refine za6 rfl (fun K hK=>?_);have g0:=bkC (v:=v1) Ykr16.out 4 rfl;have fz:=bkF Ykr16.out;go_simp;obtain⟨Y17,hW17,hk17,bs17,ho17,hl17⟩:=zfd Ykr16 4 (IZ vbp vbn vbc);rw[hW17];have Ykr17:Hid (Y17.heap[(w.heap.size+1)]? = some (.cells #[J st,J wd,J ht,IZ vap van vac,IZ vbp vbn vbc] 36 (0,0))):=by show _=_;simpa using hk17.out
     clear hk17;have YB17:=IJ (hl17.out w (by have:=YB16.out.size;omega) YB16.out);have Yt17:=IJ (Yt16.out.frame (fun y h1 _=>ho17.out y II));have Ykz17:=IJ ((ho17.out _ II).trans Ykz16.out);refine hK.out _ _ ⟨YB17.out,fun h=>by cases h⟩ ?_;clear hK K fz hW17 ho17 hl17 g0;refine wpT2_nil ?_;simp only[List.drop_succ_cons,List.drop_zero];go_wp2_with (fail);go_roundw
     case rel=>exact⟨k+1,_,_,II,by go_num,YB17.out,Ykz17.out,Ykr17.out,by rw[HS1.out,HS2.out];exact Yt17.out,II⟩
     case measure=>simp[intOf];omega
  ·obtain rfl:k=N:=II
   have d1:decide ((k:Int)<wd*ht)=false:=decide_eq_false II;rw[List.take_of_length_le (by rw[HSL.out.1];exact Nat.le_refl _),List.take_of_length_le (by rw[HSL.out.2];exact Nat.le_refl _)] at HT;obtain⟨a0,c0,a1,c1,fp,e0,e1,ho,hi⟩:=HT.out.own;rw[HSL.out.1] at e0 ho;rw[HSL.out.2] at e1 ho;subst e0 e1;have OV:=IJ ho;have IV:=IJ (hi.mono (lo':=w.heap.size) II (Nat.le_refl _));have hnf:w.heap.size ∉ fp:=fun hm=>by have:=hi _ hm;omega
   clear ho hi HT HR HST;obtain⟨g0,g1,g2,g3,g4,fz⟩:=bz5 K1.out;obtain⟨r0,r1,r2,r3,r4,rf⟩:=bz5 K0.out;go_wp2;refine bodyPost_ret (v:=.agg #[J st,J wd,J ht,IZ a0 k c0,IZ a1 k c1]) (by simp[results,Tryz.results39,go_sem, *]) rfl ⟨_,_,_,_,_,rfl,(((((HB.out.setCell (p:=⟨w,0,none⟩) Q3g (J st)).setCell (p:=⟨w,1,none⟩) Q3g (J wd)).setCell (p:=⟨w,2,none⟩) Q3g (J ht)).setCell (p:=⟨w,3,none⟩) Q3g (IZ a0 k c0)).setCell (p:=⟨w,4,none⟩) Q3g (IZ a1 k c1)),(((((OV.out.setFar (p:=⟨w,0,none⟩) hnf (J st)).setFar (p:=⟨w,1,none⟩) hnf (J wd)).setFar (p:=⟨w,2,none⟩) hnf (J ht)).setFar (p:=⟨w,3,none⟩) hnf (IZ a0 k c0)).setFar (p:=⟨w,4,none⟩) hnf (IZ a1 k c1)),by simpa only[zac] using IV.out⟩
set_option maxHeartbeats 16000000
set_option maxRecDepth 100000
theorem iGrid_any (t:DTerrain) (n:DNetwork) (x:DSector) (f ab:Int) (T:TerrOk t) (v0 v1 v2 v3 v4 v5:Value) (pa:inT t (endR n x).place) (ea:endP (endR n x)) (eb:1≤ab∧ab≤3000) (k:Nat) (hk:k<n.sites.length) (hi:zby n.sites x.site=(k:Int)) (ka kr:Nat) (hp:Parts n x ka kr) (l0:n.sites.length≤1099511627776) (l2:n.antennas.length≤1099511627776) (l3:n.radios.length≤1099511627776) (f0:1≤f) (f1:f≤100000000) (w:World) (r0:Rd w w (DSite.sT n.sites) v0) (r2:Rd w w (DAntenna.sT n.antennas) v2) (r3:Rd w w (DRadio.sT n.radios) v3) (r4:Rd w w (zam t.heights) v4) (r5:Rd w w (zam t.clutter) v5) (L:TabW w) :
  Calls Tryz.prog 38 #[.agg #[v0,v1,v2,v3],.agg (t,v4,v5),.agg x,J f,J ab] w fun e w'=>∃ (a':Option Addr) (c':Nat) (fp:List Nat),e=.returned (IZ a' (zdg t n x f ab).length c')∧OI w w w'∧Own w' (zam (zdg t n x f ab)) (IZ a' (zdg t n x f ab).length c') fp∧In w w'.heap.size fp:=by
 obtain⟨i0,hi0,hz0,hz1,hz2⟩:=info_parts infoI;have hra:=(radio_bd hp.rok).1;have hrf:=(radio_bd hp.rok).2;have hga:=ant_gain hp.ok;have HPG:=IJ (pgI_eq hp);obtain⟨ar,cr,er,_,_,hclr⟩:=DRadio.rd r3;obtain⟨br,ofr,ear,hbr,hatr⟩:=hclr (by have:=hp.lr;omega);subst ear;have hlr:=hp.lr;obtain⟨-,-,-,-,-,⟨um,hsm,rum⟩⟩:=hatr kr hlr;obtain⟨am,cm,eum,_,_,_⟩:=DMode.rd rum;subst eum;rw[zcb hlr] at hsm;obtain⟨a,c,ee,_,_,hcl⟩:=DAntenna.rd r2;have hka:=hp.la;obtain⟨b,off,ea_,hbl,hat⟩:=hcl II;subst ea_ ee;obtain⟨s0,s1,⟨u2,s2,ru2⟩,⟨u3,s3,ru3⟩⟩:=hat ka hka;rw[zbn hka] at s0 s1 ru2 ru3;obtain⟨ah,ch,e2,_,_,_⟩:=ru2.ints;obtain⟨av,cv,e3,_,_,_⟩:=ru3.ints;subst e2 e3;have hia:=hp.ia;obtain⟨W0,hW0,b0_,z0,k0,k1,k2⟩:=boxes3 w #[v0,v1,IZ (some ⟨b,off,none⟩) n.antennas.length c,v3] 32 (t,v4,v5) 26 x 43;have HW0:=IJ hW0;have B0:=IJ b0_;have HD:=IJ (fun (W:World) (hW:OI W0 W0 W)=>bx4 k0 hW <| bx5 k1 hW <| by9 k2 hW);have HB:Hid (OI W0 W0 W0):=Below.refl _ _;clear k0 k1 k2 hW0 b0_;have CR:Hid (∀ (q:DEnd) (W:World),OI W0 W0 W→Calls Tryz.prog 53 #[.agg #[v0,v1,IZ (some ⟨b,off,none⟩) n.antennas.length c,v3],.agg (t,v4,v5),.agg x,.agg q] W fun e w'=>e=.returned (.bool (reachB t n x q))∧OI W W w'):=fun q W hW=>iReach_any t n x q T v0 v1 _ v3 v4 v5 k hk hi l0 W ((r0.below (B0.out.trans (hW.mono B0.out.size))).mono (B0.out.trans (hW.mono B0.out.size)).size)
 have CL:Hid (∀ q:DEnd,inT t q.place→endP q→¬ ((endR n x).place.x=q.place.x∧(endR n x).place.y=q.place.y)→∀ W:World,OI W0 W0 W→Calls Tryz.prog 54 #[.agg #[v0,v1,IZ (some ⟨b,off,none⟩) n.antennas.length c,v3],.agg (t,v4,v5),.agg x,J f,.agg q] W fun e w'=>e=.returned (J (levI t n x f q))∧OI W W w'):=fun q h1 h2 h3 W hW=>iLevel_any t n x q T v0 v1 _ v3 v4 v5 pa h1 ea h2 h3 k hk hi ka kr hp l0 l2 l3 f f0 f1 W ((r0.below (B0.out.trans (hW.mono B0.out.size))).mono (B0.out.trans (hW.mono B0.out.size)).size) ((r2.below (B0.out.trans (hW.mono B0.out.size))).mono (B0.out.trans (hW.mono B0.out.size)).size) ((r3.below (B0.out.trans (hW.mono B0.out.size))).mono (B0.out.trans (hW.mono B0.out.size)).size) ((r4.below (B0.out.trans (hW.mono B0.out.size))).mono (B0.out.trans (hW.mono B0.out.size)).size) ((r5.below (B0.out.trans (hW.mono B0.out.size))).mono (B0.out.trans (hW.mono B0.out.size)).size) (L.mono (B0.out.trans (hW.mono B0.out.size)))
 have CN:Hid (∀ W:World,OI W0 W0 W→Calls Tryz.prog 76 #[.agg #[v0,v1,IZ (some ⟨b,off,none⟩) n.antennas.length c,v3],IQ x.antenna] W fun e w'=>e=.returned (J (ka:Int))∧OI W W w'):=fun W hW=>by
  have:=zed n.antennas x.antenna v0 v1 _ v3 w.heap.size W (r2.below (B0.out.trans (hW.mono B0.out.size))) ((B0.out.trans (hW.mono B0.out.size))).size l2;rw[hia] at this;exact this
 have CA:Hid (∀ W:World,OI W0 W0 W→Calls Tryz.prog 75 #[.agg #[v0,v1,IZ (some ⟨b,off,none⟩) n.antennas.length c,v3],.agg x] W fun e w'=>e=.returned (.agg ((zbg n.radios kr),am,cm))∧OI W W w'):=fun W hW=>iRadio_any n x v0 v1 _ v3 W ((r3.below (B0.out.trans (hW.mono B0.out.size))).mono (B0.out.trans (hW.mono B0.out.size)).size) l3 kr hp.lr hp.ir br ofr cr cm am er (by have:=((B0.out.trans (hW.mono B0.out.size))).size;omega) ((bat (B0.out.trans (hW.mono B0.out.size)) br _ hbr).trans hsm)
 have HAN:Hid (∀ W:World,OI W0 W0 W→(W,b,off+ka*4,IQ (za5 n.antennas ka).name)∧(W,b,off+ka*4+1,J (za5 n.antennas ka).gain)∧(W,b,off+ka*4+2,IZ ah (za5 n.antennas ka).horizontal.length ch)∧(W,b,off+ka*4+3,IZ av (za5 n.antennas ka).vertical.length cv)):=fun W hW=>⟨(bat (B0.out.trans (hW.mono B0.out.size)) b _ hbl).trans s0,(bat (B0.out.trans (hW.mono B0.out.size)) b _ hbl).trans s1,(bat (B0.out.trans (hW.mono B0.out.size)) b _ hbl).trans s2,(bat (B0.out.trans (hW.mono B0.out.size)) b _ hbl).trans s3⟩
 have HIT:Hid (∀ y c:Nat,(c:Int)<t.width→(y:Int)<t.height→inT t ⟨(c:Int)*t.step,(y:Int)*t.step⟩):=fun y c h1 h2=>grid_inT T h1 h2
 have HAT:Hid (∀ y c:Nat,(c:Int)<t.width→(y:Int)<t.height→ptG t (y*t.width.toNat+c)=⟨(c:Int)*t.step,(y:Int)*t.step⟩∧y*t.width.toNat+c<zcf t∧y*t.width.toNat+t.width.toNat≤zcf t):=fun y c h1 h2=>ptG_at T h1 h2
 have HTK:Hid (∀ i,i<zcf t→(zdg t n x f ab).take (i+1)=(zdg t n x f ab).take i++[gvI t n x f ⟨ptG t i,ab⟩]):=fun i h=>gridL_take t n x f ab h
 have HGN:=IJ (gridN_eq T);have HGL:=IJ (ze9 t n x f ab);have HGV:Hid (∀ q:DEnd,reachB t n x q=true→gvI t n x f q=max (levI t n x f q) (-300000)):=fun q h=>by show _=_;rw[gvI,if_pos h]
 have HGF:Hid (∀ q:DEnd,reachB t n x q=false→gvI t n x f q=pgI n x):=fun q h=>by show _=_;rw[gvI,if_neg (by rw[h];decide)]
 have hw0:=T.w0;have hw1:=T.w1;have hh0:=T.h0;have hh1:=T.h1;have hmw:=T.mw;have hmh:=T.mh;have hbW:b<W0.heap.size:=by have:=B0.out.size;omega
 have ka0:(0:Int)≤(ka:Int):=II
 have ka1:(ka:Int)<(n.antennas.length:Int):=II
 clear T pa ea hi hk hp r0 r2 r3 r4 r5 L hia hcl hat ru2 ru3 s0 s1 s2 s3 hclr hatr rum hsm er hka;generalize zbg n.radios kr=R at *;generalize za5 n.antennas ka=A at *;go_enter Tryz.func38,Tryz.ntmps38;go_upto_region 1 with (fail);rw[HW0.out];obtain⟨t0,t1,t2,t3,t4,t5,t6,t7,t8,t9,t10,t11,t12,t13,t14,t15,t16,t17⟩:=HD.out _ HB.out;go_wp2;clear t0 t1 t2 t3 t4 t5 t6 t7 t8 t9 t10 t11 t12 t13 t14 t15 t16 t17;go_loopw [11,19] (fun lv yi wr=>∃ (y:Nat),(y:Int)≤t.height∧yi=J (y:Int)∧OI W0 W0 wr∧Grow wr W0.heap.size 2 1 lv (y*t.width.toNat) (((zdg t n x f ab).take (y*t.width.toNat)).map intT) []) (fun _ yi wr=>t.height.toNat-(intOf yi).toNat)
 case atStart=>exact⟨0,II,rfl,HB.out,by simpa using Grow.nil⟩
 case round =>
  clear HB;obtain⟨y,hy,rfl,hb,hg⟩:=hrel;have HB:=IJ hb;have HG:=IJ hg;clear hb hg
  by_cases hlt:(y:Int)<t.height
  ·obtain⟨t0,t1,t2,t3,t4,t5,t6,t7,t8,t9,t10,t11,t12,t13,t14,t15,t16,t17⟩:=HD.out _ HB.out
   go_wp2_with (fail);clear t0 t1 t2 t3 t4 t5 t6 t7 t8 t9 t10 t11 t12 t13 t14 t15 t16 t17;generalize wr=wo at *;go_loopw [11,24] (fun lv ci wr=>∃ (c:Nat),(c:Int)≤t.width∧ci=J (c:Int)∧OI W0 W0 wr∧Grow wr W0.heap.size 2 1 lv (y*t.width.toNat+c) (((zdg t n x f ab).take (y*t.width.toNat+c)).map intT) []) (fun _ ci wr=>t.width.toNat-(intOf ci).toNat)
   case atStart=>exact⟨0,II,rfl,HB.out,by simpa using HG.out⟩
   case round =>
    clear HB HG;obtain⟨c',hc,rfl,hb,hg⟩:=hrel;have HB:=IJ hb;have HG:=IJ hg;clear hb hg
    by_cases hlt2:(c':Int)<t.width
    ·have hIT:=HIT.out y c' hlt2 hlt
     obtain⟨hAT,hAN,hAM⟩:=HAT.out y c' hlt2 hlt;have HTKc:=IJ (HTK.out _ hAN);have hn576:=HGN.out.2.1;rw[hAT] at HTKc;obtain⟨⟨hx0,hx1⟩,hy0,hy1⟩:=hIT;have HPI:Hid (inT t ⟨(c':Int)*t.step,(y:Int)*t.step⟩):=⟨⟨hx0,hx1⟩,hy0,hy1⟩
     dsimp only at hx0 hx1 hy0 hy1
     obtain⟨t0,t1,t2,t3,t4,t5,t6,t7,t8,t9,t10,t11,t12,t13,t14,t15,t16,t17⟩:=HD.out _ HB.out;have i1:IntKind.i64.wrap ((c':Int)*t.step)=(c':Int)*t.step:=IntWalk.i64_in _ II;have i2:IntKind.i64.wrap ((y:Int)*t.step)=(y:Int)*t.step:=IntWalk.i64_in _ II;go_upto_region 9 with (fail);clear i1 i2 t0 t1 t2 t3 t4 t5 t6 t7 t8 t9 t10 t11 t12 t13 t14 t15 t16 t17;have bE:=zao wr (.cells #[J ((c':Int)*t.step),J ((y:Int)*t.step),J ab] 55);have KE:=IJ (bkN wr #[J ((c':Int)*t.step),J ((y:Int)*t.step),J ab] 55);have HGE:=IJ (HG.out.below (lo:=0) In.nil bE);have HBE:Hid (OI W0 W0 (wr.alloc (.cells #[J ((c':Int)*t.step),J ((y:Int)*t.step),J ab] 55))):=HB.out.trans (bE.mono HB.out.size);have zE:wr.heap.size<(wr.alloc (.cells #[J ((c':Int)*t.step),J ((y:Int)*t.step),J ab] 55)).heap.size:=by simp
     clear bE HG HB hAT;generalize hq:(⟨⟨(c':Int)*t.step,(y:Int)*t.step⟩,ab⟩:DEnd)=q at *;have hqx:(c':Int)*t.step=q.place.x:=by rw[← hq]
     have hqy:(y:Int)*t.step=q.place.y:=by rw[← hq]
     have hqa:ab=q.above:=by rw[← hq]
     have HQI:Hid (inT t q.place):=by rw[← hq];exact HPI.out
     have HQE:Hid (endP q):=by show endP q;rw[← hq];exact eb
     rw[hqx,hqy] at KE HGE HBE zE;rw[hqx,hqy];clear hq HPI hx0 hx1 hy0 hy1;have HQA:=IJ hqa;rw[hqa] at KE HGE HBE zE
     conv in (World.alloc _ _)=>rw[hqa]
     clear hqx hqy hqa;generalize wr.alloc (.cells q 55)=M at *;have KEM:=IJ (fun (W:World) (hW:OI M M W)=>(⟨bkC (bkB KE.out hW zE) 0 rfl,bkC (bkB KE.out hW zE) 1 rfl,bkC (bkB KE.out hW zE) 2 rfl⟩:(W,wr.heap.size,0,J q.place.x)∧(W,wr.heap.size,1,J q.place.y)∧(W,wr.heap.size,2,J q.above)));have HB:=HBE;have BM0:Hid (OI M M M):=Below.refl _ _;obtain⟨y0,y1,y2⟩:=KEM.out _ BM0.out;obtain⟨t0,t1,t2,t3,t4,t5,t6,t7,t8,t9,t10,t11,t12,t13,t14,t15,t16,t17⟩:=HD.out _ HB.out
     cases hR:reachB t n x q with
     | true =>
      have HRT:=IJ (HGV.out q hR);have hnd:=(reachB_true.1 hR).2;have CLq:=IJ (CL.out q HQI.out HQE.out hnd);have CRq:=IJ (CR.out q);rw[hR] at CRq;clear hR hnd;go_wp2_with (first|(go_at_call 53;with_reducible refine (CRq.out _ HB.out).mono ?_;rintro e u1 ⟨rfl,hb_⟩;(have HGu:=IJ (HGE.out.below (lo:=0) In.nil hb_));(have BM1:=IJ hb_);(have HB1:=btr HB hb_);clear hb_ y0 y1 y2 t0 t1 t2 t3 t4 t5 t6 t7 t8 t9 t10 t11 t12 t13 t14 t15 t16 t17;obtain⟨y0,y1,y2⟩:=KEM.out _ BM1.out;obtain⟨t0,t1,t2,t3,t4,t5,t6,t7,t8,t9,t10,t11,t12,t13,t14,t15,t16,t17⟩:=HD.out _ HB1.out)|(go_at_call 54;with_reducible refine (CLq.out _ HB1.out).mono ?_;rintro e u2 ⟨rfl,hb_⟩;(have HGv:=IJ (HGu.out.below (lo:=0) In.nil hb_));(have HB2:=btr HB1 hb_);clear hb_ y0 y1 y2 t0 t1 t2 t3 t4 t5 t6 t7 t8 t9 t10 t11 t12 t13 t14 t15 t16 t17)|(at_builtin;(with_reducible show wpList _ _ _ _ _ (World.alloc _ _));refine zax rfl (.tmp 43) (.tmp 51) _ rfl W0.heap.size 2 i0 _ 1 8 Tryz.underlying24 hi0 hz0 hz1 hz2 rfl II _ _ _ [] rfl HGv.out [J (max (levI t n x f q) (-300000))] [intT (max (levI t n x f q) (-300000))] [] rfl 1 rfl (fun u hu=>by simp at hu;subst hu;rfl) (RepV.lits [J (max (levI t n x f q) (-300000))]) List.nodup_nil (fun b h=>by simp at h) 0 In.nil In.nil Q4a Q4a Q3v II (by have:=HB2.out.size;omega) ?_;intro v7 w7 hgn;have HGA:=IJ hgn;clear hgn));go_roundw
      case rel =>
       refine⟨c' + 1,II,by go_num,HB2.out.trans HGA.out.below,?_⟩;rw[show y*t.width.toNat+(c' + 1)=y*t.width.toNat+c' + 1 by omega,HTKc.out,List.map_append,HRT.out];have hg:=HGA.out.grow;rw[← HQA.out] at hg;exact hg
      case measure=>simp[intOf];omega
     | false =>
      have HRF:=IJ ((HGF.out q hR).trans HPG.out);have CRq:=IJ (CR.out q);rw[hR] at CRq;clear hR;go_upto_region 11 with (go_at_call 53;with_reducible refine (CRq.out _ HB.out).mono ?_;rintro e u1 ⟨rfl,hb_⟩;(have HGu:=IJ (HGE.out.below (lo:=0) In.nil hb_));(have HB1:=btr HB hb_);clear hb_ y0 y1 y2 t0 t1 t2 t3 t4 t5 t6 t7 t8 t9 t10 t11 t12 t13 t14 t15 t16 t17);clear KEM BM0 KE CL CR CRq HGE;generalize u1=U at *;have HBW:Hid (∀ W:World,OI U U W→OI W0 W0 W):=fun W h=>HB1.out.trans (h.mono HB1.out.size)
      have HK:Hid (∀ W:World,OI U U W→(W,w.heap.size,0,v0)∧(W,w.heap.size,1,v1)∧(W,w.heap.size,2,IZ (some ⟨b,off,none⟩) n.antennas.length c)∧(W,w.heap.size,3,v3)∧(W,w.heap.size+1+1,0,IQ x.name)∧(W,w.heap.size+1+1,1,IQ x.site)∧(W,w.heap.size+1+1,2,IQ x.antenna)∧(W,w.heap.size+1+1,3,IQ x.radio)∧(W,w.heap.size+1+1,4,IQ x.band)∧(W,w.heap.size+1+1,5,J x.azimuth)∧(W,w.heap.size+1+1,6,J x.tilt)∧(W,w.heap.size+1+1,7,J x.above)∧(W,w.heap.size+1+1,8,J x.channel)∧(W,b,off+ka*4,IQ A.name)∧(W,b,off+ka*4+1,J A.gain)∧(W,b,off+ka*4+2,IZ ah A.horizontal.length ch)∧(W,b,off+ka*4+3,IZ av A.vertical.length cv)):=fun W h=>by
       obtain⟨t0,t1,t2,t3,t4,t5,t6,t7,t8,t9,t10,t11,t12,t13,t14,t15,t16,t17⟩:=HD.out W (HBW.out W h);obtain⟨r0,r1,r2,r3⟩:=HAN.out W (HBW.out W h);exact⟨t0,t1,t2,t3,t9,t10,t11,t12,t13,t14,t15,t16,t17,r0,r1,r2,r3⟩
      have u11:w.heap.size<U.heap.size:=by have:=HB1.out.size;have:=z0;omega
      have u12:w.heap.size+1<U.heap.size:=by have:=HB1.out.size;have:=z0;omega
      have u13:w.heap.size+1+1<U.heap.size:=by have:=HB1.out.size;have:=z0;omega
      have u14:b<U.heap.size:=by have:=HB1.out.size;omega
      have xx1:U.heap.size<U.heap.size+1+1:=II
      have hcf:=HK.out U (Below.refl _ _);clear zE;go_cut [15,16] (fun s15 s16 wx=>∃ g h:Nat,s15=.pointer (some ⟨g,0,none⟩)∧s16=.pointer (some ⟨h,0,none⟩)∧(wx,g,1,J R.power)∧(wx,g,2,J R.feeder)∧(wx,h,1,J A.gain)∧OI U U wx)
      case first =>
       go_region_held3 (fun W=>(W,w.heap.size,0,v0)∧(W,w.heap.size,1,v1)∧(W,w.heap.size,2,IZ (some ⟨b,off,none⟩) n.antennas.length c)∧(W,w.heap.size,3,v3)∧(W,w.heap.size+1+1,0,IQ x.name)∧(W,w.heap.size+1+1,1,IQ x.site)∧(W,w.heap.size+1+1,2,IQ x.antenna)∧(W,w.heap.size+1+1,3,IQ x.radio)∧(W,w.heap.size+1+1,4,IQ x.band)∧(W,w.heap.size+1+1,5,J x.azimuth)∧(W,w.heap.size+1+1,6,J x.tilt)∧(W,w.heap.size+1+1,7,J x.above)∧(W,w.heap.size+1+1,8,J x.channel)∧(W,b,off+ka*4,IQ A.name)∧(W,b,off+ka*4+1,J A.gain)∧(W,b,off+ka*4+2,IZ ah A.horizontal.length ch)∧(W,b,off+ka*4+3,IZ av A.vertical.length cv)) (exact HK.out _ Q2c) (first|(go_at_call 75;refine (CA.out _ (HBW.out _ Q2e)).mono ?_;rintro e' w2 ⟨rfl,hb2⟩;have K2:Hid (OI U U w2):=Below.trans Q2e (hb2.mono Q2k);have yz2:U.heap.size≤w2.heap.size:=K2.out.size;have hs2:=hb2.size;(try simp at hs2);(try have p21:U.heap.size<w2.heap.size:=II);(try have p22:U.heap.size+1<w2.heap.size:=II);have xx2:w2.heap.size<w2.heap.size+1+1:=II;have p23:U.heap.size<w2.heap.size+1:=II;have p24:U.heap.size<w2.heap.size+1+1:=II;(try have p25:U.heap.size+1<w2.heap.size+1:=II);obtain⟨qq2,qf2⟩:=bcell hb2;clear hb2)|(go_at_call 76;refine (CN.out _ (HBW.out _ Q2d)).mono ?_;rintro e' w3 ⟨rfl,hb3⟩;have K3:Hid (OI U U w3):=Below.trans Q2d (hb3.mono Q2k);have yz3:w2.heap.size≤w3.heap.size:=(by have hh:=hb3.size;first|exact hh|(simp at hh;omega));have hs3:=hb3.size;(try simp at hs3);(try have p31:U.heap.size<w3.heap.size:=II);(try have p32:U.heap.size+1<w3.heap.size:=II);(try have p33:w2.heap.size<w3.heap.size:=II);(try have p34:w2.heap.size+1<w3.heap.size:=II);obtain⟨qq3,qf3⟩:=bcell hb3;clear hb3))
       all_goals (go_wp2_with fail;go_meet)
       all_goals refine⟨_,_,rfl,rfl,?_,?_,?_,Q2c⟩
       all_goals first|(simp[go_sem, *];done)|(simp[go_sem,cell_set_same, *];done)|(simp[zac];omega)|(simp only[zac];omega)|(simp[go_sem, *];omega)
      case rest =>
       obtain⟨g,h,rfl,rfl,m0,m1,m2,hBx⟩:=hcut;generalize wc=U2 at *;have HB2:=IJ (HBW.out U2 hBx);have HGv:=IJ (HGu.out.below (lo:=0) In.nil hBx);clear hcf hBx HK HBW u11 u12 u13 u14 xx1;obtain⟨hra0,hra1⟩:=hra;obtain⟨hrf0,hrf1⟩:=hrf;obtain⟨hga0,hga1⟩:=hga;go_wp2_with (at_builtin;(with_reducible show wpList _ _ _ _ _ (World.alloc _ _));refine zax rfl (.tmp 64) (.tmp 73) _ rfl W0.heap.size 2 i0 _ 1 8 Tryz.underlying24 hi0 hz0 hz1 hz2 rfl II _ _ _ [] rfl HGv.out [J (R.power-R.feeder+A.gain)] [intT (R.power-R.feeder+A.gain)] [] rfl 1 rfl (fun u hu=>by simp at hu;subst hu;rfl) (RepV.lits [J (R.power-R.feeder+A.gain)]) List.nodup_nil (fun b h=>by simp at h) 0 In.nil In.nil Q4a Q4a Q3v II (by have:=HB2.out.size;omega) ?_;intro v7 w7 hgn;have HGA:=IJ hgn;clear hgn);go_roundw
       case rel =>
        refine⟨c' + 1,II,by go_num,HB2.out.trans HGA.out.below,?_⟩;rw[show y*t.width.toNat+(c' + 1)=y*t.width.toNat+c' + 1 by omega,HTKc.out,List.map_append,HRF.out];have hg:=HGA.out.grow;rw[← HQA.out] at hg;exact hg
       case measure=>simp[intOf];omega
    ·have hcW:c' = t.width.toNat:=II
     have hgw:=HG.out;rw[hcW,← Nat.succ_mul] at hgw;have HGW:=IJ hgw;clear hgw;clear hcW;go_wp2_with (fail);go_roundw
     case rel=>exact⟨y+1,II,by go_num,HB.out,HGW.out⟩
     case measure=>simp[intOf];omega
  ·have hN:y*t.width.toNat=zcf t:=by rw[HGN.out.1,show y=t.height.toNat by omega,Nat.mul_comm]
   have hg:=HG.out;rw[hN,List.take_of_length_le (by rw[HGL.out];exact Nat.le_refl _)] at hg;obtain⟨av,cv,fv,ev,ov,iv⟩:=hg.toOwn (lo:=W0.heap.size) II In.nil (Nat.le_refl _);subst ev;have OV:=IJ ov;have IV:=IJ iv;clear hg ov iv hN HG;go_wp2_with (fail);go_ret;refine⟨av,cv,by rw[HGL.out];rfl,B0.out.trans (HB.out.mono B0.out.size),fv,?_,IV.out.mono (by have:=B0.out.size;omega) (Nat.le_refl _)⟩;rw[HGL.out];exact OV.out
def ask20 (t:DTerrain) (n:DNetwork) (f ab:Int):Int:=if zc0 t=true∧netB n=true then (if inB f 1 100000000=true∧inB ab 1 3000=true then 0 else 2) else 1
theorem rise_lt {α:Type} {nm:α→ByteArray} {ok:α→Bool} {l:List α} (h:zaz ok (fun p x=>ltS (nm p) (nm x)) l=true):∀ (j i:Nat) (hij:i<j) (hj:j<l.length),ltS (nm (l[i]'II)) (nm l[j])=true:=by
 intro j
 induction j with
 | zero=>intro i hij;omega
 | succ j ih =>
  intro i hij hj;have h1:=ze5 h hj
  rcases Nat.lt_or_ge i j with c|c
  ·exact ltS_trans (ih i c II) h1
  ·obtain rfl:i=j:=II
   exact h1
theorem rise_one {α:Type} {nm:α→ByteArray} {ok:α→Bool} {l:List α} (h:zaz ok (fun p x=>ltS (nm p) (nm x)) l=true) {i k:Nat} (hi:i<l.length) (hk:k<l.length) (e:nm l[i]=nm l[k]):i=k:=by
 have hn:∀ s:ByteArray,ltS s s=true→False:=fun s hs=>by have:=ltS_asymm hs;rw[hs] at this;cases this
 rcases Nat.lt_trichotomy i k with c|c|c
 ·have:=rise_lt h k i c hk;rw[e] at this;exact (hn _ this).elim
 ·exact c
 ·have:=rise_lt h i k c hi;rw[e] at this;exact (hn _ this).elim
theorem netB_rows {n:DNetwork} (h:netB n=true):zaz radB (fun p x=>ltS p.name x.name) n.radios=true∧zaz antB (fun p x=>ltS p.name x.name) n.antennas=true∧zaz (fun x=>zag x&&zan n x) (fun p x=>ltS p.name x.name) n.sectors=true:=by
 rw[netB_eq] at h;unfold zdn at h;simp only[Bool.and_eq_true] at h;exact⟨h.1.2.1,h.1.1,h.2.2.2.2⟩
theorem sector_eq {n:DNetwork} (h:netB n=true) {nm:ByteArray} {k:Nat} (hk:k<n.sectors.length) (hi:zay n.sectors nm=(k:Int)) {i:Nat} (hl:i<n.sectors.length):((zad n.sectors i).name.toList == nm.toList)=decide (i=k):=by
 rw[← za3 hl];have hn:n.sectors[k].name=nm:=by
  rcases zb6 (fun y:DSector=>eqS y.name nm) n.sectors with ⟨h',_⟩|⟨k',hk',h',he,_⟩
  ·unfold zay at hi;omega
  ·have:k' = k:=by unfold zay at hi;omega
   subst this;exact eqS_iff.1 he
 rw[Bool.eq_iff_iff,decide_eq_true_eq]
 constructor
 ·intro e
  exact rise_one (nm:=DSector.name) (netB_rows h).2.2 hl hk ((eqS_iff.1 e).trans hn.symm)
 ·rintro rfl
  exact eqS_iff.2 hn
theorem sector_none {n:DNetwork} {nm:ByteArray} (hi:zay n.sectors nm = -1) {i:Nat} (hl:i<n.sectors.length):((zad n.sectors i).name.toList == nm.toList)=false:=by
 rw[← za3 hl]
 rcases zb6 (fun y:DSector=>eqS y.name nm) n.sectors with ⟨_,ha⟩|⟨k',hk',h',_,_⟩
 ·rw[List.any_eq_false] at ha
  have:=ha _ (List.getElem_mem hl)
  simpa [eqS] using this
 ·unfold zay at hi;omega
def zb4 (t:DTerrain) (n:DNetwork) (nm:ByteArray) (f ab:Int):List Int × Int :=
 if zc0 t=true∧netB n=true then
  (if inB f 1 100000000=true∧inB ab 1 3000=true then
   (if 0≤zay n.sectors nm then
    (if zee t (endR n (zad n.sectors (zay n.sectors nm).toNat)).place=true then (zdg t n (zad n.sectors (zay n.sectors nm).toNat) f ab,0) else ([],6))
   else ([],3))
  else ([],2)) else ([],1)
theorem ask20_zero {t:DTerrain} {n:DNetwork} {f ab:Int} (h:ask20 t n f ab=0):(zc0 t=true∧netB n=true)∧inB f 1 100000000=true∧inB ab 1 3000=true:=by
 unfold ask20 at h
 by_cases h1:zc0 t=true∧netB n=true
 ·rw[if_pos h1] at h
  by_cases h2:inB f 1 100000000=true∧inB ab 1 3000=true
  ·exact⟨h1,h2⟩
  ·rw[if_neg h2] at h;omega
 ·rw[if_neg h1] at h;omega
theorem secLev_none {t:DTerrain} {n:DNetwork} {nm:ByteArray} {f ab:Int} (h:ask20 t n f ab=0) (hi:zay n.sectors nm = -1):zb4 t n nm f ab=([],3):=by
 obtain⟨h1,h2⟩:=ask20_zero h;unfold zb4;rw[if_pos h1,if_pos h2,if_neg II]
theorem secLev_out {t:DTerrain} {n:DNetwork} {nm:ByteArray} {f ab:Int} {k:Nat} (h:ask20 t n f ab=0) (hi:zay n.sectors nm=(k:Int)) (ht:zee t (endR n (zad n.sectors k)).place=false):zb4 t n nm f ab=([],6):=by
 obtain⟨h1,h2⟩:=ask20_zero h;unfold zb4;rw[if_pos h1,if_pos h2,hi,if_pos II,Int.toNat_natCast,if_neg (by rw[ht];decide)]
theorem secLev_in {t:DTerrain} {n:DNetwork} {nm:ByteArray} {f ab:Int} {k:Nat} (h:ask20 t n f ab=0) (hi:zay n.sectors nm=(k:Int)) (ht:zee t (endR n (zad n.sectors k)).place=true):zb4 t n nm f ab=(zdg t n (zad n.sectors k) f ab,0):=by
 obtain⟨h1,h2⟩:=ask20_zero h;unfold zb4;rw[if_pos h1,if_pos h2,hi,if_pos II,Int.toNat_natCast,if_pos ht]
theorem idx_two (l:List DSector) (nm:ByteArray):zay l nm = -1∨∃ k:Nat,k<l.length∧zay l nm=(k:Int):=by
 rcases zb6 (fun y:DSector=>eqS y.name nm) l with ⟨h',_⟩|⟨k',hk',h',_,_⟩
 ·exact Or.inl h'
 ·exact Or.inr ⟨k',hk',h'⟩
theorem RepV.one {w:World} {t:Tr} {v:Value} {fp:List Nat} (h:Rep w t v fp):RepV w [t] [v] fp:=⟨fp,[],h,rfl,(List.append_nil fp).symm⟩
theorem In.app {lo m hi:Nat} {f g:List Nat} (h:In lo m f) (k:In m hi g) (h1:lo≤m) (h2:m≤hi):In lo hi (f++g):=fun y hy=>by
 rcases List.mem_append.1 hy with h' | h'
 ·have:=h y h';omega
 ·have:=k y h';omega
end Go.Proofs.YtpakghepnahooaaGreatDoor
