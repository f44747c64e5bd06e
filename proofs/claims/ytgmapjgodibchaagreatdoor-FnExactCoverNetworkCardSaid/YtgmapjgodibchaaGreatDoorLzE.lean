/- Contract: the raster of the strongest sectors, for the program. Conditions: bounded sizes. -/
import Derived.Test.YtgmapjgodibchaaGreatDoorRowF
import Derived.Test.YtgmapjgodibchaaGreatDoorLxE
set_option linter.unusedVariables false
set_option linter.unusedSimpArgs false
namespace Go.Proofs.YtgmapjgodibchaaGreatDoor
open Go.RowKit
def stepC (least i v:Int) (s:Int × Int):Int × Int:=if least≤v∧(s.1<0∨s.2<v) then (i,v) else s
def zfo (m:List (List Int)) (least:Int) (c:Nat):Nat→Int × Int
 | 0=>(-1,-300000)
 | k+1=>stepC least (k:Int) (gi (rowI m k) c) (zfo m least c k)
def srvC (m:List (List Int)) (least:Int) (N k:Nat):List Int:=(List.range N).map fun c=>(zfo m least c k).1
def lvlC (m:List (List Int)) (least:Int) (N k:Nat):List Int:=(List.range N).map fun c=>(zfo m least c k).2
theorem zet (m:List (List Int)) (least:Int) (N k:Nat):(srvC m least N k).length=N:=by simp[srvC]
theorem zev (m:List (List Int)) (least:Int) (N k:Nat):(lvlC m least N k).length=N:=by simp[lvlC]
theorem srvC_gi {m:List (List Int)} {least:Int} {N k c:Nat} (h:c<N):gi (srvC m least N k) c=(zfo m least c k).1:=by simp[gi,srvC,h]
theorem lvlC_gi {m:List (List Int)} {least:Int} {N k c:Nat} (h:c<N):gi (lvlC m least N k) c=(zfo m least c k).2:=by simp[gi,lvlC,h]
theorem map_range_take {α:Type} (f:Nat→α) {N c:Nat} (h:c<N):((List.range N).map f).take (c+1)=((List.range N).map f).take c++[f c]:=by
 have hl:c<((List.range N).map f).length:=by simpa using h
 rw[List.take_succ_eq_append_getElem hl];simp
theorem srvC_take {m:List (List Int)} {least:Int} {N k c:Nat} (h:c<N):(srvC m least N k).take (c+1)=(srvC m least N k).take c++[(zfo m least c k).1]:=map_range_take _ h
theorem lvlC_take {m:List (List Int)} {least:Int} {N k c:Nat} (h:c<N):(lvlC m least N k).take (c+1)=(lvlC m least N k).take c++[(zfo m least c k).2]:=map_range_take _ h
def mixI (a b:List Int) (c:Nat):List Int:=b.take c++a.drop c
theorem mixI_zero (a b:List Int):mixI a b 0=a:=by simp[mixI]
theorem mixI_len {a b:List Int} {c:Nat} (h:a.length=b.length) (hc:c≤b.length):(mixI a b c).length=b.length:=by
 unfold mixI;rw[List.length_append,List.length_take,List.length_drop];omega
theorem mixI_all {a b:List Int} (h:a.length=b.length):mixI a b b.length=b:=by
 unfold mixI;rw[List.take_length,← h,List.drop_length,List.append_nil]
theorem mixI_at {a b:List Int} {c:Nat} (h:a.length=b.length) (hc:c<b.length):gi (mixI a b c) c=gi a c:=by
 unfold mixI gi;rw[List.getD_eq_getElem?_getD,List.getD_eq_getElem?_getD,List.getElem?_append_right (by rw[List.length_take];omega),List.length_take,Nat.min_eq_left O,List.getElem?_drop]
 congr 2
 omega
theorem mixI_set {a b:List Int} {c:Nat} (h:a.length=b.length) (hc:c<b.length):(mixI a b c).set c (gi b c)=mixI a b (c+1):=by
 unfold mixI;rw[List.set_append_right _ _ (by rw[List.length_take];omega),List.length_take,Nat.min_eq_left O,Nat.sub_self,List.take_succ_eq_append_getElem hc,List.append_assoc,List.drop_eq_getElem_cons O,IZ];rw[← gi_eq hc]
 rfl
theorem mixI_same {a b:List Int} {c:Nat} (h:a.length=b.length) (hc:c<b.length) (he:gi b c=gi a c):mixI a b (c+1)=mixI a b c:=by
 unfold mixI;rw[List.take_succ_eq_append_getElem hc,List.append_assoc,List.drop_eq_getElem_cons (i:=c) (l:=a) O,gi_eq hc,gi_eq (by omega:c<a.length),he]
 rfl
theorem bestC_succ (m:List (List Int)) (least:Int) (c k:Nat):zfo m least c (k+1)=stepC least (k:Int) (gi (rowI m k) c) (zfo m least c k):=rfl
theorem stepC_on {least i v:Int} {s:Int × Int} (h1:least≤v) (h2:s.1<0∨s.2<v):stepC least i v s=(i,v):=if_pos ⟨h1,h2⟩
theorem stepC_off {least i v:Int} {s:Int × Int} (h:¬ (least≤v∧(s.1<0∨s.2<v))):stepC least i v s=s:=if_neg h
theorem srvC_zero (m:List (List Int)) (least:Int) (N:Nat):srvC m least N 0=List.replicate N (-1):=by
 unfold srvC;rw[List.eq_replicate_iff];simp[zfo]
theorem lvlC_zero (m:List (List Int)) (least:Int) (N:Nat):lvlC m least N 0=List.replicate N (-300000):=by
 unfold lvlC;rw[List.eq_replicate_iff];simp[zfo]
def covL (t:DTerrain) (n:DNetwork) (f ab:Int):List (List Int):=n.sectors.map fun x=>zcx t n x f ab
theorem covL_len (t:DTerrain) (n:DNetwork) (f ab:Int):(covL t n f ab).length=n.sectors.length:=by simp[covL]
theorem covL_at (t:DTerrain) (n:DNetwork) (f ab:Int) {k:Nat} (hk:k<n.sectors.length):rowI (covL t n f ab) k=zcx t n (zab n.sectors k) f ab:=by
 unfold rowI covL;rw[List.getD_eq_getElem?_getD,List.getElem?_map,List.getElem?_eq_getElem hk,za5 hk]
 rfl
theorem covL_take (t:DTerrain) (n:DNetwork) (f ab:Int) {k:Nat} (hk:k<n.sectors.length):(covL t n f ab).take (k+1)=(covL t n f ab).take k++[zcx t n (zab n.sectors k) f ab]:=by
 have h:k<(covL t n f ab).length:=by rw[covL_len];exact hk
 rw[List.take_succ_eq_append_getElem h];simp only[covL,List.getElem_map,za5 hk]
def rasC (t:DTerrain) (m:List (List Int)) (least:Int) (k:Nat):DRaster:=⟨t.step,t.width,t.height,srvC m least (za6 t) k,lvlC m least (za6 t) k⟩
def zd2 (t:DTerrain) (n:DNetwork) (x:DSector):Bool:=zc9 t (endR n x).place
def zeroRas:DRaster:=⟨0,0,0,[],[]⟩
def covR (t:DTerrain) (n:DNetwork) (f ab least:Int):DRaster × Int :=
 if zc6 t=true∧netB n=true then
  (if inB f 1 100000000=true∧inB ab 1 3000=true∧inB least (-300000) 300000=true then
   (if n.sectors.all (zd2 t n)=true then (rasC t (covL t n f ab) least n.sectors.length,0) else (zeroRas,6))
  else (zeroRas,2)) else (zeroRas,1)
structure CovE (t:DTerrain) (n:DNetwork) (f ab least:Int):Prop where
 e1:zc6 t=false∨netB n=false→covR t n f ab least=(zeroRas,1)
 e2:zc6 t=true→netB n=true→inB f 1 100000000=false∨inB ab 1 3000=false∨inB least (-300000) 300000=false→covR t n f ab least=(zeroRas,2)
 e3:zc6 t=true→netB n=true→inB f 1 100000000=true→inB ab 1 3000=true→inB least (-300000) 300000=true→∀ k,k<n.sectors.length→zd2 t n (zab n.sectors k)=false→covR t n f ab least=(zeroRas,6)
 e4:zc6 t=true→netB n=true→inB f 1 100000000=true→inB ab 1 3000=true→inB least (-300000) 300000=true→n.sectors.all (zd2 t n)=true→covR t n f ab least=(rasC t (covL t n f ab) least n.sectors.length,0)
theorem cov_e (t:DTerrain) (n:DNetwork) (f ab least:Int):CovE t n f ab least where
 e1:=fun h=>by
  unfold covR;rw[if_neg];rintro⟨x,y⟩;rw[x,y] at h;simp at h
 e2:=fun a b h=>by
  unfold covR;rw[if_pos ⟨a,b⟩,if_neg];rintro⟨x,y,z⟩;rw[x,y,z] at h;simp at h
 e3:=fun a b c d e k hk h=>by
  unfold covR;rw[if_pos ⟨a,b⟩,if_pos ⟨c,d,e⟩,if_neg];rw[lw_false_at hk (by rw[za5 hk];exact h)]
  decide
 e4:=fun a b c d e h=>by unfold covR;rw[if_pos ⟨a,b⟩,if_pos ⟨c,d,e⟩,if_pos h]
theorem home_take (t:DTerrain) (n:DNetwork) {k:Nat} (hk:k<n.sectors.length):(n.sectors.take (k+1)).all (zd2 t n)=((n.sectors.take k).all (zd2 t n)&&zd2 t n (zab n.sectors k)):=by rw[lw_take_succ _ _ hk,za5 hk]
end Go.Proofs.YtgmapjgodibchaaGreatDoor
namespace Go.Proofs.YtgmapjgodibchaaGreatDoor
open Go.RowKit
structure TwoI (w:World) (base E:Nat) (v0 v1:Value) (l0 l1:List Int):Prop where
 g0:Grow w base E 1 v0 l0.length (l0.map intT) []
 g1:Grow w base E 1 v1 l1.length (l1.map intT) []
 d:∀ y,v0.ownBlock=some y→v1.ownBlock≠some y
section
variable {w w':World} {base E:Nat} {v0 v1 v':Value} {l0 l1:List Int}
theorem TwoI.start (w:World) (base E:Nat):TwoI w base E (II none 0 0) (II none 0 0) [] []:=⟨Grow.nil,Grow.nil,fun y h=>by simp[Value.ownBlock] at h⟩
theorem TwoI.frame (h:TwoI w base E v0 v1 l0 l1) (hf:∀ y,base≤y→y<w.heap.size→w'.heap[y]? = w.heap[y]?):TwoI w' base E v0 v1 l0 l1 :=
 ⟨h.g0.frame (fun g hg=>hf g (h.g0.block hg).1 (h.g0.block hg).2) (fun b hb=>by simp at hb),h.g1.frame (fun g hg=>hf g (h.g1.block hg).1 (h.g1.block hg).2) (fun b hb=>by simp at hb),h.d⟩
theorem TwoI.below (h:TwoI w base E v0 v1 l0 l1) (hb:IJ w w w'):TwoI w' base E v0 v1 l0 l1:=h.frame (fun y _ hy=>hb.block y hy)
theorem TwoI.set (h:TwoI w base E v0 v1 l0 l1) {b:Nat} (hb:b<base) (j:Nat) (u:Value):TwoI (w.setCell ⟨b,j,none⟩ u) base E v0 v1 l0 l1 :=
 h.frame (fun y hy _=>Below.heap_setCell w ⟨b,j,none⟩ u y (by show y≠b;omega))
theorem TwoI.sl (h:TwoI w base E v0 v1 l0 l1):∃ a n c,v0=II a n c:=by
 obtain⟨a,c,_,e,_,_⟩:=h.g0.toOwn (lo:=base) (by decide) In.nil (Nat.le_refl _);exact⟨a,_,c,e⟩
theorem TwoI.swap (h:TwoI w base E v0 v1 l0 l1):TwoI w base E v1 v0 l1 l0:=⟨h.g1,h.g0,fun y h1 h0=>h.d y h0 h1⟩
theorem TwoI.app (h:TwoI w base E v0 v1 l0 l1) {u:Int} (hg:Grow w' base E 1 v' (l0.length+1) (l0.map intT++[intT u]) []) (hk:∀ y,y<w.heap.size→v0.ownBlock≠some y→w'.heap[y]? = w.heap[y]?) (hr:v'.ownBlock=v0.ownBlock∨∃ b,v'.ownBlock=some b∧w.heap.size≤b):TwoI w' base E v' v1 (l0++[u]) l1:=by
 refine⟨by rw[List.length_append,List.map_append];exact hg,h.g1.frame (fun g hg=>hk g (h.g1.block hg).2 (fun e=>h.d g e hg)) (fun b hb=>by simp at hb),fun y hy hn=>?_⟩
 rcases hr with e|⟨b,e,hb⟩
 ·exact h.d y (e ▸ hy) hn
 ·rw[e] at hy
  injection hy with hy;have:=(h.g1.block hn).2;omega
theorem wp_two0 {P:Program} {o:Oper} {a:Act} {K:Act→World→Prop} {Q:Exit→Act→World→Prop} (s x:Operand) (t:TypeId)
  (ho:o.op=.call { callee:=.builtin .append,args:=#[s,x],argTypes:=#[t,t] })
  (i:TypeInfo) (z:Value) (ht:P.underlying t=some (.slice E)) (hi:P.info? E=some i) (hz:i.zero=some z)
  (hsize:i.size=1) (hby:i.bytes=8) (hzs:z.cells.size=1)
  (h:TwoI w base E v0 v1 l0 l1) (u:Int) (b c:Nat) (hs:a.eval s=v0) (hx:a.eval x=II (some ⟨b,0,none⟩) 1 c)
  (hb:w.heap[b]? = some (.cells #[I u] E (0,0))) (h63:l0.length≤1048576) (hbase:base≤w.heap.size)
  (hK:∀ v' w',TwoI w' base E v' v1 (l0++[u]) l1→w.heap.size≤w'.heap.size→(∀ y,y<base→w'.heap[y]? = w.heap[y]?)→(∀ y,y<w.heap.size→v0.ownBlock≠some y→w'.heap[y]? = w.heap[y]?)→(∀ (lo:Nat) (w0:World),lo≤base→IJ lo w0 w→IJ lo w0 w')→K (a.put o.dst v') w'):o.wp P a w K Q:=by
 obtain⟨xs,hxo,hxr⟩:=h.g0.own;have hlt:b<w.heap.size:=by
  rcases Nat.lt_or_ge b w.heap.size with hlt|hge
  ·exact hlt
  ·rw[Array.getElem?_eq_none hge] at hb;cases hb
 have hrd:Reads w w.heap.size 1 (some ⟨b,0,none⟩) 1 [I u]:=by
  refine⟨rfl,fun _=>⟨_,rfl,hlt,fun j q hq=>?_⟩⟩
  match j,hq with
  | 0,hq =>
   have e:(⟨b,0,none⟩:Addr).add 0=⟨b,0,none⟩:=by unfold Addr.add;simp
   rw[e,zbz hb]
   simpa using hq
 refine zfc w s x t ho base E i z 1 8 ht hi hz hsize hby hzs (by decide) v0 l0.length xs hs hxo w.heap.size (some ⟨b,0,none⟩) 1 c [I u] hx hrd (fun q hq=>by simp at hq;subst hq;rfl) (by unfold maxLen;omega) O hbase ?_;intro v' w' hown hgr hat;have hg:=h.g0.step (lo:=0) hxo (RepV.lits [I u]) In.nil In.nil List.nodup_nil (fun x hx=>by simp at hx) (fun b hb=>by simp at hb) (fun b _=>by simp) hown hgr hat;refine hK v' w' (h.app hg (fun y hy hn=>hgr.block y hy (fun e=>hn e.symm)) ?_) hgr.size (fun y hy=>hgr.block y O (fun e=>by have:=(h.g0.block e.symm).1;omega)) (fun y hy hn=>hgr.block y hy (fun e=>hn e.symm)) (fun lo w0 hlo hB=>hB.grown hgr O (fun b hb=>by have:=(h.g0.block hb).1;omega))
 rcases hat with e|e
 ·exact Or.inl e
 ·exact Or.inr ⟨_,e,Nat.le_refl _⟩
theorem TwoI.own (h:TwoI w base E v0 v1 l0 l1):∃ a0 c0 a1 c1 fp,v0=II a0 l0.length c0∧v1=II a1 l1.length c1∧OwnV w [zai l0,zai l1] [II a0 l0.length c0,II a1 l1.length c1] fp∧In base w fp:=by
 obtain⟨p0,o0,q0,r0⟩:=h.g0.toOwnB (by decide) In.nil (Nat.le_refl _);obtain⟨p1,o1,q1,r1⟩:=h.g1.toOwnB (by decide) In.nil (Nat.le_refl _);obtain⟨a0,c0,_,e0,_,_⟩:=h.g0.toOwn (lo:=base) (by decide) In.nil (Nat.le_refl _);obtain⟨a1,c1,_,e1,_,_⟩:=h.g1.toOwn (lo:=base) (by decide) In.nil (Nat.le_refl _);subst e0 e1;refine⟨a0,c0,a1,c1,p0++(p1++[]),rfl,rfl,OwnV.cons o0 (OwnV.cons o1 OwnV.nil (fun y _=>by simp)) (fun y hy hn=>?_),q0.append (q1.append In.nil)⟩;rw[List.append_nil] at hn
 rcases r0 y hy with e|e
 ·rcases r1 y hn with e' | e'
  ·exact h.d y e e'
  ·simp at e'
 ·simp at e
theorem own_rowF {l:List Int} {a:Option Addr} {n c lo:Nat} {fp:List Nat} (h:Own w (zai l) (II a n c) fp) (hin:In lo w fp) (hl:0<l.length):∃ b off,a=some ⟨b,off,none⟩∧n=l.length∧b ∈ fp∧n≤c∧c≤maxLen∧RowF w b off n (gi l)∧∀ i,w.frozen? ⟨b,i,none⟩=false:=by
 have hr:=h.rd hin;obtain⟨a',c',e,hnc,hcm,hat⟩:=hr.ints;injection e with e1 e2 e3;subst e1 e2 e3;obtain⟨b,off,ea,hb,hcl⟩:=hat hl;subst ea;obtain⟨_,_,_,he,_,_,_,hc⟩:=zcf.1 h.rep;injection he with e1 e2 e3
 rcases hc with ⟨h1,_⟩|⟨b',off',g,_,hb',hfp,_⟩
 ·simp at h1
  subst h1;simp at hl
 ·rw[← e1] at hb'
  injection hb' with hb';injection hb' with hb' _ _;have hm:b ∈ fp:=by rw[hfp,hb'];exact List.mem_cons_self
  exact⟨b,off,rfl,rfl,hm,hnc,hcm,fun q hq=>by rw[hcl q hq,gi_eq hq],fun i=>h.free b hm i⟩
theorem RowF.frame {b off n:Nat} {f:Nat→Int} (h:RowF w b off n f) (he:w'.heap[b]? = w.heap[b]?):RowF w' b off n f:=fun q hq=>by rw[World.cell?_of_block he];exact h q hq
theorem RowF.store {b off n:Nat} {f:Nat→Int} (h:RowF w b off n f) (hf:∀ i,w.frozen? ⟨b,i,none⟩=false) (k:Nat) (hk:k<n) (u:Int):∃ W,w.setCell ⟨b,off+k,none⟩ (I u)=W∧RowF W b off n (fun q=>if q=k then u else f q)∧(∀ i,W.frozen? ⟨b,i,none⟩=false)∧W.heap.size=w.heap.size∧(∀ y,y≠b→W.heap[y]? = w.heap[y]?)∧(∀ w0:World,w0.heap.size≤b→IJ w0 w0 w→IJ w0 w0 W) :=
 ⟨_,rfl,h.set k hk u,fun i=>by rw[frozen_setCell];exact hf i,zac _ _ _,fun y hy=>Below.heap_setCell _ _ _ _ hy,fun w0 hw hB=>hB.setCell (p:=⟨b,off+k,none⟩) hw _⟩
theorem gi_set {l:List Int} {c q:Nat} (u:Int) (hc:c<l.length):gi (l.set c u) q=if q=c then u else gi l q:=by
 unfold gi;rw[List.getD_eq_getElem?_getD,List.getD_eq_getElem?_getD,List.getElem?_set]
 by_cases e:q=c
 ·subst e;simp[hc]
 ·rw[if_neg (fun h=>e h.symm),if_neg e]
theorem RowF.mix {b off n k:Nat} {x y:List Int} {u:Int} (h:RowF w b off n (fun q=>if q=k then u else gi (mixI x y k) q)) (hl:x.length=y.length) (hk:k<y.length) (hu:gi y k=u):RowF w b off n (gi (mixI x y (k+1))):=fun q hq=>by
 rw[h q hq,← mixI_set hl hk,gi_set _ (by rw[mixI_len hl O];exact hk),hu]
theorem RowF.same {b off n:Nat} {f g:Nat→Int} (h:RowF w b off n f) (he:∀ q,q<n→f q=g q):RowF w b off n g:=fun q hq=>by rw[h q hq,he q hq]
end
theorem ownV_ras {w:World} {S L:List Int} {va vb:Value} {fp:List Nat} (a b c:Int) (h:OwnV w [zai S,zai L] [va,vb] fp):OwnV w [intT a,intT b,intT c,zai S,zai L] [I a,I b,I c,va,vb] fp :=
 OwnV.consLit (OwnV.consLit (OwnV.consLit h rfl) rfl) rfl
end Go.Proofs.YtgmapjgodibchaaGreatDoor
namespace Go.Proofs.YtgmapjgodibchaaGreatDoor
open Go.RowKit
theorem ask20_zero {t:DTerrain} {n:DNetwork} {f ab:Int} (h:ask20 t n f ab=0):(zc6 t=true∧netB n=true)∧inB f 1 100000000=true∧inB ab 1 3000=true:=by
 unfold ask20 at h
 by_cases h1:zc6 t=true∧netB n=true
 ·rw[if_pos h1] at h
  by_cases h2:inB f 1 100000000=true∧inB ab 1 3000=true
  ·exact⟨h1,h2⟩
  ·rw[if_neg h2] at h;omega
 ·rw[if_neg h1] at h;omega
theorem idx_two (l:List DSector) (nm:ByteArray):zbg l nm = -1∨∃ k:Nat,k<l.length∧zbg l nm=(k:Int):=by
 rcases zbs (fun y:DSector=>eqS y.name nm) l with ⟨h',_⟩|⟨k',hk',h',_,_⟩
 ·exact Or.inl h'
 ·exact Or.inr ⟨k',hk',h'⟩
set_option maxHeartbeats 16000000
set_option maxRecDepth 100000
theorem bestServers_any (st wd ht least:Int) (m:List (List Int)) (N:Nat) (hN:(N:Int)=wd*ht) (h576:N≤576) (hrow:∀ k,k<m.length→(rowI m k).length=N) (hm:m.length≤24) (vm:Value) (w:World) (rm:Rd w w (intssT m) vm) :
  Calls Tryz.prog 59 #[I st,I wd,I ht,vm,I least] w fun e w'=>∃ (a0:Option Addr) (c0:Nat) (a1:Option Addr) (c1:Nat) (fp:List Nat),e=.returned (.agg #[I st,I wd,I ht,II a0 N c0,II a1 N c1])∧IJ w w w'∧OwnV w' [zai (srvC m least N m.length),zai (lvlC m least N m.length)] [II a0 N c0,II a1 N c1] fp∧In w w'.heap.size fp:=by
 obtain⟨i0,hi0,hz0,hz1,hz2⟩:=info_parts infoI;have m0:0≤wd*ht:=O
 have m1:wd*ht≤576:=O
 have hmi:(m.length:Int)≤24:=O
 obtain⟨am,cm,em,_,_,hcm⟩:=rm.intss;subst em;have HR:Hid (∀ k,k<m.length→0<N→∃ bm om b off c,am=some ⟨bm,om,none⟩∧bm<w.heap.size∧b<w.heap.size∧∀ W:World,IJ w w W→W.cell? ⟨bm,om+k,none⟩=some (II (some ⟨b,off,none⟩) N c)∧∀ q,q<N→W.cell? ⟨b,off+q,none⟩=some (I (gi (rowI m k) q))):=fun k hk hp=>by
  obtain⟨bm,om,ea,hbm,hat⟩:=hcm O;obtain⟨u,hu,ru⟩:=hat k hk;obtain⟨a,c,eu,_,_,hci⟩:=ru.ints;have hl:=hrow k hk;have hr:rowI m k=m[k]:=by simp[rowI,hk]
  rw[hr] at hl;obtain⟨b,off,eb,hb,hcj⟩:=hci O;subst eu eb;rw[hl] at hu
  exact⟨bm,om,b,off,c,ea,hbm,hb,fun W hW=>⟨(bat hW bm _ hbm).trans hu,fun q hq=>by
   have h:=hcj q O;rw[gi_eq O,← hr] at h
   exact (bat hW b _ hb).trans h⟩⟩
 clear hcm rm hrow;obtain⟨W0,hW0,b0_,z0,k0,k1⟩:=zeb w #[I 0,I 0,I 0,II none 0 0,II none 0 0] 34 #[I st,I wd,I ht,II none 0 0,II none 0 0] 34;have HW0:=J hW0;have B0:=J b0_;have HD:=J (fun (W:World) (hW:IJ W0 W0 W)=>bx5 k0 hW <| by5 k1 hW);have HB:Hid (IJ W0 W0 W0):=Below.refl _ _;have K0:=J k0;have K1:=J k1;clear k0 k1 hW0 b0_;have HSL:Hid ((srvC m least N m.length).length=N∧(lvlC m least N m.length).length=N):=⟨zet _ _ _ _,zev _ _ _ _⟩
 have HST:Hid (∀ c,c<N→(srvC m least N m.length).take (c+1)=(srvC m least N m.length).take c++[(zfo m least c m.length).1]∧(lvlC m least N m.length).take (c+1)=(lvlC m least N m.length).take c++[(zfo m least c m.length).2]):=fun c hc=>⟨srvC_take hc,lvlC_take hc⟩
 generalize srvC m least N m.length=SV at *;generalize lvlC m least N m.length=LV at *;go_enter Tryz.func59,Tryz.ntmps59;go_upto_region 2 with (fail);rw[HW0.out];go_wp2;go_loopw [24] (fun iv wr=>∃ (k:Nat) (v0 v1:Value),k≤N∧iv=I (k:Int)∧IJ w w wr∧wr.heap[w.heap.size]? = some (.cells #[I 0,I 0,I 0,II none 0 0,II none 0 0] 34 (0,0))∧wr.heap[w.heap.size+1]? = some (.cells #[I st,I wd,I ht,v0,v1] 34 (0,0))∧TwoI wr W0.heap.size 2 v0 v1 (SV.take k) (LV.take k)∧W0.heap.size≤wr.heap.size) (fun iv _=>N-(intOf iv).toNat)
 case atStart=>exact⟨0,_,_,Nat.zero_le _,rfl,B0.out,K0.out,K1.out,TwoI.start _ _ _,Nat.le_refl _⟩
 case round =>
  clear HB HD K0 K1;obtain⟨k,v0,v1,hk,rfl,hbw,hk0,hk1,ht,zr⟩:=hrel;have HB:=J hbw;have K0:=J hk0;have K1:=J hk1;have HT:=J ht;clear hbw hk0 hk1 ht;have k0:(0:Int)≤(k:Int):=O
  by_cases hlt:k<N
  ·have d1:decide ((k:Int)<wd*ht)=true:=decide_eq_true O
   have k1:(k:Int)<(N:Int):=O
   have HRk:Hid (∀ j,j<m.length→∃ bm om b off c,am=some ⟨bm,om,none⟩∧bm<w.heap.size∧b<w.heap.size∧∀ W:World,IJ w w W→W.cell? ⟨bm,om+j,none⟩=some (II (some ⟨b,off,none⟩) N c)∧W.cell? ⟨b,off+k,none⟩=some (I (gi (rowI m j) k))):=fun j hj=>by
    obtain⟨bm,om,b,off,c,e,h1,h2,h3⟩:=HR.out j hj O;exact⟨bm,om,b,off,c,e,h1,h2,fun W hW=>⟨(h3 W hW).1,(h3 W hW).2 k hlt⟩⟩
   obtain⟨hst1,hst2⟩:=HST.out k hlt;have HS1:=J hst1;have HS2:=J hst2;clear HR HST hst1 hst2;go_wp2;generalize wr=wi at *;go_loopw [13,14,29] (fun sv lv iv wx=>∃ j:Nat,j≤m.length∧iv=I (j:Int)∧sv=I (zfo m least k j).1∧lv=I (zfo m least k j).2∧IJ wi wi wx) (fun _ _ iv _=>m.length-(intOf iv).toNat)
   case atStart=>exact⟨0,Nat.zero_le _,rfl,rfl,rfl,Below.refl _ _⟩
   case round =>
    obtain⟨j,hj,rfl,rfl,rfl,hbx⟩:=hrel;have BX:=J hbx;clear hbx;have j0:(0:Int)≤(j:Int):=O
    by_cases hjt:j<m.length
    ·have j1:(j:Int)<(m.length:Int):=O
     obtain⟨bm,om,b,off,c,rfl,hbm,hb,hc⟩:=HRk.out j hjt;have HBX:=btr HB BX.out;obtain⟨x0,x1⟩:=hc wr HBX.out;have HSC:=J (bestC_succ m least k j);generalize hs2:zfo m least k (j+1)=s2 at *;generalize zfo m least k j=s1 at *;generalize gi (rowI m j) k=xv at *;clear HRk HS1 HS2 K0 K1 HT;have y1:b<wr.heap.size:=by have:=HBX.out.size;omega
     by_cases hon:least≤xv∧(s1.1<0∨s1.2<xv)
     ·have HQ:=J (HSC.out.trans (stepC_on hon.1 hon.2))
      have e0:decide (least≤xv)=true:=decide_eq_true hon.1
      rcases Classical.em (s1.1<0) with e1|e1
      ·have e2:decide (s1.1<0)=true:=decide_eq_true e1
       go_upto_region 10 with (fail);have o0:=zal (w0:=wr) (show b<wr.heap.size by omega);refine zad wr.heap.size wr (Below.refl _ _) OJ OJ ?_
       repeat (go_big_quiet_step (fail))
       refine wpQuiet_nil ?_;rintro _ ⟨X,rfl⟩;have hx_:=zaa wr.heap.size wr X;clear o0 x0 x1;generalize over wr.heap.size wr X=U at *;have BU:=btr BX hx_;clear hx_;go_wp2;go_roundw
       case rel=>exact⟨j+1,O,by go_num,by rw[hs2,HQ.out],by rw[hs2,HQ.out],BU.out⟩
       case measure=>simp[intOf];omega
      ·have e2:decide (s1.1<0)=false:=decide_eq_false e1
       have e3:decide (s1.2<xv)=true:=decide_eq_true O;go_upto_region 10 with (fail);have o0:=zal (w0:=wr) (show b<wr.heap.size by omega);refine zad wr.heap.size wr (Below.refl _ _) OJ OJ ?_
       repeat (go_big_quiet_step (fail))
       refine wpQuiet_nil ?_;rintro _ ⟨X,rfl⟩;have hx_:=zaa wr.heap.size wr X;clear o0 x0 x1;generalize over wr.heap.size wr X=U at *;have BU:=btr BX hx_;clear hx_;go_wp2;go_roundw
       case rel=>exact⟨j+1,O,by go_num,by rw[hs2,HQ.out],by rw[hs2,HQ.out],BU.out⟩
       case measure=>simp[intOf];omega
     ·have HQ:=J (HSC.out.trans (stepC_off hon))
      rcases Classical.em (least≤xv) with e1|e1
      ·have e0:decide (least≤xv)=true:=decide_eq_true e1
       have e2:decide (s1.1<0)=false:=decide_eq_false (fun h=>hon ⟨e1,Or.inl h⟩);have e3:decide (s1.2<xv)=false:=decide_eq_false (fun h=>hon ⟨e1,Or.inr h⟩);go_wp2_with (fail);go_roundw
       case rel=>exact⟨j+1,O,by go_num,by rw[hs2,HQ.out],by rw[hs2,HQ.out],BX.out⟩
       case measure=>simp[intOf];omega
      ·have e0:decide (least≤xv)=false:=decide_eq_false e1
       go_wp2_with (fail);go_roundw
       case rel=>exact⟨j+1,O,by go_num,by rw[hs2,HQ.out],by rw[hs2,HQ.out],BX.out⟩
       case measure=>simp[intOf];omega
    ·obtain rfl:j=m.length:=O
     clear HRk;have KX0:=bkH K0 BX.out;have KX1:=bkH K1 BX.out;have HTX:=J (HT.out.below BX.out);have HBX:=btr HB BX.out;have zx:=BX.out.size;have hl0:(SV.take k).length≤576:=by have:=List.length_take_le k SV;omega
     have hl1:(LV.take k).length≤576:=by have:=List.length_take_le k LV;omega
     clear K0 K1 HT HB BX HSL;generalize hb1:(zfo m least k m.length).1=sx at *;generalize hb2:(zfo m least k m.length).2=lx at *;generalize SV.take k=SK at *;generalize LV.take k=LK at *;clear hb1 hb2;go_upto_region 12 with (fail);have HDS:Hid (∀ W:World,W.heap[w.heap.size+1]? = some (.cells #[I st,I wd,I ht,v0,v1] 34 (0,0))→(W.cell? ⟨w.heap.size+1,3,none⟩=some v0∧W.cell? ⟨w.heap.size+1,4,none⟩=some v1)):=fun W h=>⟨bkC h 3 rfl,bkC h 4 rfl⟩
     refine zcj 14 11 (.pure 0 (.read 1 (.pure 2 (.pure 5 (.read 6 (.pure 7 (.two 3 8 (.two 4 8 (.pure 10 (.one 8 (.one 9 (.one 11 (.pure 12 (.one 13 .nil)))))) (.one 4 (.pure 10 (.one 9 (.one 11 (.pure 12 (.one 13 .nil))))))) (.one 3 (.one 4 (.pure 10 (.one 9 (.one 11 (.pure 12 (.one 13 .nil)))))))))))))) (fun W=>W.heap[(w.heap.size+1)]? = some (.cells #[I st,I wd,I ht,v0,v1] 34 (0,0))) (fun W=>IJ w w W) OJ OJ (KX1.out) (HBX.out.drew) ?_;have YB:=J (HBX.out.drew);have Yz:wr.heap.size≤wr.drew.heap.size:=Nat.le_refl _;have Ykr:Hid (wr.drew.heap[(w.heap.size+1)]? = some (.cells #[I st,I wd,I ht,v0,v1] 34 (0,0))):=KX1.out;have Ykz:Hid (wr.drew.heap[w.heap.size]? = some (.cells #[I 0,I 0,I 0,II none 0 0,II none 0 0] 34 (0,0))):=KX0.out;have Yt:=J (HTX.out.frame (w':=wr.drew) (fun _ _ _=>rfl));generalize wr.drew=Y at *;refine za8 (v:=?_) rfl (fun _ _ _ h=>h) ?_ ?_
     rotate_left
     ·(intro W hSW2;(go_simp<;>with_reducible rfl))
     (try simp only[Act.put,IQ,IZ,OI])
     refine zb7 (v:=?_) rfl (fun _ _ _ h=>h) ?_ ?_
     rotate_left
     ·(intro W hSW2 hSW;(try dsimp only at hSW);obtain⟨q3,q4⟩:=HDS.out W hSW;(go_simp<;>with_reducible rfl))
     (try simp only[Act.put,IQ,IZ,OI])
     iterate 2
      refine za8 (v:=?_) rfl (fun _ _ _ h=>h) ?_ ?_
      rotate_left
      ·(intro W hSW2;(go_simp<;>with_reducible rfl))
      (try simp only[Act.put,IQ,IZ,OI])
     refine zb7 (v:=?_) rfl (fun _ _ _ h=>h) ?_ ?_
     rotate_left
     ·(intro W hSW2 hSW;(try dsimp only at hSW);obtain⟨q3,q4⟩:=HDS.out W hSW;(go_simp<;>with_reducible rfl))
     (try simp only[Act.put,IQ,IZ,OI])
     refine za8 (v:=?_) rfl (fun _ _ _ h=>h) ?_ ?_
     rotate_left
     ·(intro W hSW2;(go_simp<;>with_reducible rfl))
     (try simp only[Act.put,IQ,IZ,OI])
     refine wpT2_two false false rfl rfl ?_ ?_;refine za9 rfl (fun K hK=>?_);go_simp;obtain⟨Y1,hW1,hb1,zl1,hk1⟩:=zax Y #[I sx] 2;rw[hW1];have Yks1:=J hk1;have YB1:=btr YB hb1;have Ykr1:=bkH Ykr hb1;have Ykz1:=bkH Ykz hb1;have Yt1:=J (Yt.out.below hb1);refine hK.out _ _ ⟨YB1.out,fun _=>Ykr1.out⟩ ?_;have bs1:=hb1.size;clear hK K hW1 hk1 hb1;refine wpT2_two false false rfl rfl ?_ ?_;refine za9 rfl (fun K hK=>?_);refine wp_two0 _ _ _ rfl i0 _ Tryz.underlying22 hi0 hz0 hz1 hz2 rfl Yt1.out sx Y.heap.size _ rfl rfl Yks1.out O O ?_;intro va Y2 ht2 hsz2 hlo2 hkp2 hbl2;obtain⟨vap,van,vac,ev_⟩:=ht2.sl;subst ev_;have Yt2:=J ht2;have YB2:=J (hbl2 _ _ O YB1.out);have Ykr2:=J ((hlo2 _ O).trans Ykr1.out);have Ykz2:=J ((hlo2 _ O).trans Ykz1.out);refine hK.out _ _ ⟨YB2.out,fun _=>Ykr2.out⟩ ?_;clear hK K ht2 hlo2 hkp2 hbl2;refine za8 (v:=?_) rfl (fun _ _ _ h=>h) ?_ ?_
     rotate_left
     ·(intro W hSW2;(go_simp<;>with_reducible rfl))
     (try simp only[Act.put,IQ,IZ,OI])
     refine zbl false rfl ?_;refine za9 rfl (fun K hK=>?_);go_simp;obtain⟨Y3,hW3,hb3,zl3,hk3⟩:=zax Y2 #[I lx] 2;rw[hW3];have Ykl3:=J hk3;have YB3:=btr YB2 hb3;have Ykr3:=bkH Ykr2 hb3;have Ykz3:=bkH Ykz2 hb3;have Yt3:=J (Yt2.out.below hb3);refine hK.out _ _ ⟨YB3.out,fun _=>Ykr3.out⟩ ?_;have bs3:=hb3.size;clear hK K hW3 hk3 hb3;refine zbl false rfl ?_;refine za9 rfl (fun K hK=>?_);refine wp_two0 _ _ _ rfl i0 _ Tryz.underlying22 hi0 hz0 hz1 hz2 rfl Yt3.out.swap lx Y2.heap.size _ rfl rfl Ykl3.out O O ?_;intro vb Y4 ht4 hsz4 hlo4 hkp4 hbl4;obtain⟨vbp,vbn,vbc,ev_⟩:=ht4.sl;subst ev_;have Yt4:=J ht4.swap;have YB4:=J (hbl4 _ _ O YB3.out);have Ykr4:=J ((hlo4 _ O).trans Ykr3.out);have Ykz4:=J ((hlo4 _ O).trans Ykz3.out);refine hK.out _ _ ⟨YB4.out,fun _=>Ykr4.out⟩ ?_;clear hK K ht4 hlo4 hkp4 hbl4;refine zbl true rfl ?_;refine za9 rfl (fun K hK=>?_);have g0:=bkC (v:=v0) Ykr4.out 3 rfl;have fz:=bkF Ykr4.out;go_simp;obtain⟨Y5,hW5,hk5,bs5,ho5,hl5⟩:=zds Ykr4 3 (II vap van vac);rw[hW5];have Ykr5:Hid (Y5.heap[(w.heap.size+1)]? = some (.cells #[I st,I wd,I ht,II vap van vac,v1] 34 (0,0))):=by show _=_;simpa using hk5.out
     clear hk5;have YB5:=J (hl5.out w (by have:=YB4.out.size;omega) YB4.out);have Yt5:=J (Yt4.out.frame (fun y h1 _=>ho5.out y O));have Ykz5:=J ((ho5.out _ O).trans Ykz4.out);refine hK.out _ _ ⟨YB5.out,fun h=>by cases h⟩ ?_;clear hK K fz hW5 ho5 hl5 g0;refine za8 (v:=?_) rfl (fun _ _ _ h=>h) ?_ ?_
     rotate_left
     ·(intro W hSW2;(go_simp<;>with_reducible rfl))
     (try simp only[Act.put,IQ,IZ,OI])
     refine zbl true rfl ?_;refine za9 rfl (fun K hK=>?_);have g0:=bkC (v:=v1) Ykr5.out 4 rfl;have fz:=bkF Ykr5.out;go_simp;obtain⟨Y6,hW6,hk6,bs6,ho6,hl6⟩:=zds Ykr5 4 (II vbp vbn vbc);rw[hW6];have Ykr6:Hid (Y6.heap[(w.heap.size+1)]? = some (.cells #[I st,I wd,I ht,II vap van vac,II vbp vbn vbc] 34 (0,0))):=by show _=_;simpa using hk6.out
     clear hk6;have YB6:=J (hl6.out w (by have:=YB5.out.size;omega) YB5.out);have Yt6:=J (Yt5.out.frame (fun y h1 _=>ho6.out y O));have Ykz6:=J ((ho6.out _ O).trans Ykz5.out);refine hK.out _ _ ⟨YB6.out,fun h=>by cases h⟩ ?_;clear hK K fz hW6 ho6 hl6 g0;refine zes ?_;simp only[List.drop_succ_cons,List.drop_zero];go_wp2_with (fail);go_roundw
     case rel=>exact⟨k+1,_,_,O,by go_num,YB6.out,Ykz6.out,Ykr6.out,by rw[HS1.out,HS2.out];exact Yt6.out,O⟩
     case measure=>simp[intOf];omega
     refine za9 rfl (fun K hK=>?_);go_simp;obtain⟨Y7,hW7,hb7,zl7,hk7⟩:=zax Y1 #[I lx] 2;rw[hW7];have Ykl7:=J hk7;have YB7:=btr YB1 hb7;have Ykr7:=bkH Ykr1 hb7;have Ykz7:=bkH Ykz1 hb7;have Yks7:=bkH Yks1 hb7;have Yt7:=J (Yt1.out.below hb7);refine hK.out _ _ ⟨YB7.out,fun _=>Ykr7.out⟩ ?_;have bs7:=hb7.size;clear hK K hW7 hk7 hb7;refine zbl false rfl ?_;refine za9 rfl (fun K hK=>?_);refine wp_two0 _ _ _ rfl i0 _ Tryz.underlying22 hi0 hz0 hz1 hz2 rfl Yt7.out sx Y.heap.size _ rfl rfl Yks7.out O O ?_;intro va Y8 ht8 hsz8 hlo8 hkp8 hbl8;obtain⟨vap,van,vac,ev_⟩:=ht8.sl;subst ev_;have Yt8:=J ht8;have YB8:=J (hbl8 _ _ O YB7.out);have Ykr8:=J ((hlo8 _ O).trans Ykr7.out);have Ykz8:=J ((hlo8 _ O).trans Ykz7.out);have Ykl8:=J ((hkp8 _ (Array.getElem?_eq_some_iff.1 Ykl7.out).1 (fun e=>by have:=(Yt.out.g0.block e).2;omega)).trans Ykl7.out);refine hK.out _ _ ⟨YB8.out,fun _=>Ykr8.out⟩ ?_;clear hK K ht8 hlo8 hkp8 hbl8;refine za8 (v:=?_) rfl (fun _ _ _ h=>h) ?_ ?_
     rotate_left
     ·(intro W hSW2;(go_simp<;>with_reducible rfl))
     (try simp only[Act.put,IQ,IZ,OI])
     refine zbl false rfl ?_;refine za9 rfl (fun K hK=>?_);refine wp_two0 _ _ _ rfl i0 _ Tryz.underlying22 hi0 hz0 hz1 hz2 rfl Yt8.out.swap lx Y1.heap.size _ rfl rfl Ykl8.out O O ?_;intro vb Y9 ht9 hsz9 hlo9 hkp9 hbl9;obtain⟨vbp,vbn,vbc,ev_⟩:=ht9.sl;subst ev_;have Yt9:=J ht9.swap;have YB9:=J (hbl9 _ _ O YB8.out);have Ykr9:=J ((hlo9 _ O).trans Ykr8.out);have Ykz9:=J ((hlo9 _ O).trans Ykz8.out);refine hK.out _ _ ⟨YB9.out,fun _=>Ykr9.out⟩ ?_;clear hK K ht9 hlo9 hkp9 hbl9;refine zbl true rfl ?_;refine za9 rfl (fun K hK=>?_);have g0:=bkC (v:=v0) Ykr9.out 3 rfl;have fz:=bkF Ykr9.out;go_simp;obtain⟨Y10,hW10,hk10,bs10,ho10,hl10⟩:=zds Ykr9 3 (II vap van vac);rw[hW10];have Ykr10:Hid (Y10.heap[(w.heap.size+1)]? = some (.cells #[I st,I wd,I ht,II vap van vac,v1] 34 (0,0))):=by show _=_;simpa using hk10.out
     clear hk10;have YB10:=J (hl10.out w (by have:=YB9.out.size;omega) YB9.out);have Yt10:=J (Yt9.out.frame (fun y h1 _=>ho10.out y O));have Ykz10:=J ((ho10.out _ O).trans Ykz9.out);refine hK.out _ _ ⟨YB10.out,fun h=>by cases h⟩ ?_;clear hK K fz hW10 ho10 hl10 g0;refine za8 (v:=?_) rfl (fun _ _ _ h=>h) ?_ ?_
     rotate_left
     ·(intro W hSW2;(go_simp<;>with_reducible rfl))
     (try simp only[Act.put,IQ,IZ,OI])
     refine zbl true rfl ?_;refine za9 rfl (fun K hK=>?_);have g0:=bkC (v:=v1) Ykr10.out 4 rfl;have fz:=bkF Ykr10.out;go_simp;obtain⟨Y11,hW11,hk11,bs11,ho11,hl11⟩:=zds Ykr10 4 (II vbp vbn vbc);rw[hW11];have Ykr11:Hid (Y11.heap[(w.heap.size+1)]? = some (.cells #[I st,I wd,I ht,II vap van vac,II vbp vbn vbc] 34 (0,0))):=by show _=_;simpa using hk11.out
     clear hk11;have YB11:=J (hl11.out w (by have:=YB10.out.size;omega) YB10.out);have Yt11:=J (Yt10.out.frame (fun y h1 _=>ho11.out y O));have Ykz11:=J ((ho11.out _ O).trans Ykz10.out);refine hK.out _ _ ⟨YB11.out,fun h=>by cases h⟩ ?_;clear hK K fz hW11 ho11 hl11 g0;refine zes ?_;simp only[List.drop_succ_cons,List.drop_zero];go_wp2_with (fail);go_roundw
     case rel=>exact⟨k+1,_,_,O,by go_num,YB11.out,Ykz11.out,Ykr11.out,by rw[HS1.out,HS2.out];exact Yt11.out,O⟩
     case measure=>simp[intOf];omega
     refine za9 rfl (fun K hK=>?_);go_simp;obtain⟨Y12,hW12,hb12,zl12,hk12⟩:=zax Y #[I lx] 2;rw[hW12];have Ykl12:=J hk12;have YB12:=btr YB hb12;have Ykr12:=bkH Ykr hb12;have Ykz12:=bkH Ykz hb12;have Yt12:=J (Yt.out.below hb12);refine hK.out _ _ ⟨YB12.out,fun _=>Ykr12.out⟩ ?_;have bs12:=hb12.size;clear hK K hW12 hk12 hb12;refine zbl false rfl ?_;refine za9 rfl (fun K hK=>?_);go_simp;obtain⟨Y13,hW13,hb13,zl13,hk13⟩:=zax Y12 #[I sx] 2;rw[hW13];have Yks13:=J hk13;have YB13:=btr YB12 hb13;have Ykr13:=bkH Ykr12 hb13;have Ykz13:=bkH Ykz12 hb13;have Ykl13:=bkH Ykl12 hb13;have Yt13:=J (Yt12.out.below hb13);refine hK.out _ _ ⟨YB13.out,fun _=>Ykr13.out⟩ ?_;have bs13:=hb13.size;clear hK K hW13 hk13 hb13;refine zbl false rfl ?_;refine za9 rfl (fun K hK=>?_);refine wp_two0 _ _ _ rfl i0 _ Tryz.underlying22 hi0 hz0 hz1 hz2 rfl Yt13.out sx Y12.heap.size _ rfl rfl Yks13.out O O ?_;intro va Y14 ht14 hsz14 hlo14 hkp14 hbl14;obtain⟨vap,van,vac,ev_⟩:=ht14.sl;subst ev_;have Yt14:=J ht14;have YB14:=J (hbl14 _ _ O YB13.out);have Ykr14:=J ((hlo14 _ O).trans Ykr13.out);have Ykz14:=J ((hlo14 _ O).trans Ykz13.out);have Ykl14:=J ((hkp14 _ (Array.getElem?_eq_some_iff.1 Ykl13.out).1 (fun e=>by have:=(Yt.out.g0.block e).2;omega)).trans Ykl13.out);refine hK.out _ _ ⟨YB14.out,fun _=>Ykr14.out⟩ ?_;clear hK K ht14 hlo14 hkp14 hbl14;refine za8 (v:=?_) rfl (fun _ _ _ h=>h) ?_ ?_
     rotate_left
     ·(intro W hSW2;(go_simp<;>with_reducible rfl))
     (try simp only[Act.put,IQ,IZ,OI])
     refine zbl false rfl ?_;refine za9 rfl (fun K hK=>?_);refine wp_two0 _ _ _ rfl i0 _ Tryz.underlying22 hi0 hz0 hz1 hz2 rfl Yt14.out.swap lx Y.heap.size _ rfl rfl Ykl14.out O O ?_;intro vb Y15 ht15 hsz15 hlo15 hkp15 hbl15;obtain⟨vbp,vbn,vbc,ev_⟩:=ht15.sl;subst ev_;have Yt15:=J ht15.swap;have YB15:=J (hbl15 _ _ O YB14.out);have Ykr15:=J ((hlo15 _ O).trans Ykr14.out);have Ykz15:=J ((hlo15 _ O).trans Ykz14.out);refine hK.out _ _ ⟨YB15.out,fun _=>Ykr15.out⟩ ?_;clear hK K ht15 hlo15 hkp15 hbl15;refine zbl true rfl ?_;refine za9 rfl (fun K hK=>?_);have g0:=bkC (v:=v0) Ykr15.out 3 rfl;have fz:=bkF Ykr15.out;go_simp;obtain⟨Y16,hW16,hk16,bs16,ho16,hl16⟩:=zds Ykr15 3 (II vap van vac);rw[hW16];have Ykr16:Hid (Y16.heap[(w.heap.size+1)]? = some (.cells #[I st,I wd,I ht,II vap van vac,v1] 34 (0,0))):=by show _=_;simpa using hk16.out
     clear hk16;have YB16:=J (hl16.out w (by have:=YB15.out.size;omega) YB15.out);have Yt16:=J (Yt15.out.frame (fun y h1 _=>ho16.out y O));have Ykz16:=J ((ho16.out _ O).trans Ykz15.out);refine hK.out _ _ ⟨YB16.out,fun h=>by cases h⟩ ?_;clear hK K fz hW16 ho16 hl16 g0;refine za8 (v:=?_) rfl (fun _ _ _ h=>h) ?_ ?_
     rotate_left
     ·(intro W hSW2;(go_simp<;>with_reducible rfl))
     (try simp only[Act.put,IQ,IZ,OI])
     refine zbl true rfl ?_;refine za9 rfl (fun K hK=>?_);have g0:=bkC (v:=v1) Ykr16.out 4 rfl;have fz:=bkF Ykr16.out;go_simp;obtain⟨Y17,hW17,hk17,bs17,ho17,hl17⟩:=zds Ykr16 4 (II vbp vbn vbc);rw[hW17];have Ykr17:Hid (Y17.heap[(w.heap.size+1)]? = some (.cells #[I st,I wd,I ht,II vap van vac,II vbp vbn vbc] 34 (0,0))):=by show _=_;simpa using hk17.out
     clear hk17;have YB17:=J (hl17.out w (by have:=YB16.out.size;omega) YB16.out);have Yt17:=J (Yt16.out.frame (fun y h1 _=>ho17.out y O));have Ykz17:=J ((ho17.out _ O).trans Ykz16.out);refine hK.out _ _ ⟨YB17.out,fun h=>by cases h⟩ ?_;clear hK K fz hW17 ho17 hl17 g0;refine zes ?_;simp only[List.drop_succ_cons,List.drop_zero];go_wp2_with (fail);go_roundw
     case rel=>exact⟨k+1,_,_,O,by go_num,YB17.out,Ykz17.out,Ykr17.out,by rw[HS1.out,HS2.out];exact Yt17.out,O⟩
     case measure=>simp[intOf];omega
  ·obtain rfl:k=N:=O
   have d1:decide ((k:Int)<wd*ht)=false:=decide_eq_false O;rw[List.take_of_length_le (by rw[HSL.out.1];exact Nat.le_refl _),List.take_of_length_le (by rw[HSL.out.2];exact Nat.le_refl _)] at HT;obtain⟨a0,c0,a1,c1,fp,e0,e1,ho,hi⟩:=HT.out.own;rw[HSL.out.1] at e0 ho;rw[HSL.out.2] at e1 ho;subst e0 e1;have OV:=J ho;have IV:=J (hi.mono (lo':=w.heap.size) O (Nat.le_refl _));have hnf:w.heap.size ∉ fp:=fun hm=>by have:=hi _ hm;omega
   clear ho hi HT HR HST;obtain⟨g0,g1,g2,g3,g4,fz⟩:=bz5 K1.out;obtain⟨r0,r1,r2,r3,r4,rf⟩:=bz5 K0.out;go_wp2;refine bodyPost_ret (v:=.agg #[I st,I wd,I ht,II a0 k c0,II a1 k c1]) (by simp[results,Tryz.results59,go_sem, *]) rfl ⟨_,_,_,_,_,rfl,(((((HB.out.setCell (p:=⟨w,0,none⟩) (by show w.heap.size≤w.heap.size;omega) (I st)).setCell (p:=⟨w,1,none⟩) (by show w.heap.size≤w.heap.size;omega) (I wd)).setCell (p:=⟨w,2,none⟩) (by show w.heap.size≤w.heap.size;omega) (I ht)).setCell (p:=⟨w,3,none⟩) (by show w.heap.size≤w.heap.size;omega) (II a0 k c0)).setCell (p:=⟨w,4,none⟩) (by show w.heap.size≤w.heap.size;omega) (II a1 k c1)),(((((OV.out.setFar (p:=⟨w,0,none⟩) hnf (I st)).setFar (p:=⟨w,1,none⟩) hnf (I wd)).setFar (p:=⟨w,2,none⟩) hnf (I ht)).setFar (p:=⟨w,3,none⟩) hnf (II a0 k c0)).setFar (p:=⟨w,4,none⟩) hnf (II a1 k c1)),by simpa only[zac] using IV.out⟩
end Go.Proofs.YtgmapjgodibchaaGreatDoor
