/- Contracts: slices.Insert of one element into a slice of structs of one's own. Conditions: bounded lengths, an index within. -/
import Derived.Test.YtmkkiglcpedkiaaGreatDoorIns0
import Derived.Test.YtmkkiglcpedkiaaGreatDoorVs
import Derived.Test.YtmkkiglcpedkiaaGreatDoorTree
import Derived.Deep.DeepCutAuto
set_option linter.unusedVariables false
set_option linter.unusedSimpArgs false
namespace Go.Proofs.YtmkkiglcpedkiaaGreatDoor
open Go.RowKit
set_option maxHeartbeats 4000000
set_option maxRecDepth 100000
theorem insertRecord_any (l:List DRecord) (x:DRecord) (i:Nat) (hi:i≤l.length) (a:Option Addr) (c base vb:Nat) (w:World) (ho:w.ownsRow base 69 2 (.slice a l.length c) l.length (l.flatMap DRecord.vs)) (hbase:base≤w.heap.size) (hv:w.heap[vb]? = some (.cells #[.string x.key,.string x.value] 69 (0,0)))
  (hvo:(Value.slice a l.length c).ownBlock≠some vb) (hn:l.length≤1048576) :
  Calls Tryz.prog 76 #[.slice a l.length c,.int .i64 (i:Int),.slice (some ⟨vb,0,none⟩) 1 1] w fun e w'=>∃ a' c',e=.returned (.slice a' (l.length+1) c')∧Ins w w' base 69 2 (Value.slice a l.length c).ownBlock (.slice a' (l.length+1) c') (l.length+1) ((l.take i++x::l.drop i).flatMap DRecord.vs):=by
 obtain⟨ti,hi0,hi1,hi2,hi3⟩:=info_parts infoRecord;have HON:=Lib.hid (DRecord.vs_one l);have HONX:Hid (∀ u ∈ x.vs,u.oneCell' = true):=fun u hu=>DRecord.vs_one [x] u (by simpa using hu)
 rw[ins_flatv DRecord.vs 2 DRecord.vs_len];have hvlt:vb<w.heap.size:=by
  rcases Nat.lt_or_ge vb w.heap.size with h|h
  ·exact h
  ·rw[Array.getElem?_eq_none h] at hv;cases hv
 have HXL:=Lib.hid (flatv_length DRecord.vs 2 DRecord.vs_len l);have RV:Hid (RowV w vb 0 x.vs):=RowV.of_blk hv;have hvl:x.vs.length=2:=rfl;generalize l.flatMap DRecord.vs=xs at *;generalize l.length=n at *;clear l;have hnI:(n:Int)≤1048576:=by omega
 by_cases he:i=n
 ·subst he
  have hr:Reads w w.heap.size 2 (some ⟨vb,0,none⟩) 1 x.vs:=⟨by rw[hvl],fun _=>⟨⟨vb,0,none⟩,rfl,hvlt,fun j u hu=>by rw[add_mk];exact RV.out.cell j u hu⟩⟩
  have HRR:=Lib.hid hr;have HOO:=Lib.hid ho;have HV:=Lib.hid hv;have HL2:Hid (xs.take (i*2)++(x.vs++xs.drop (i*2))=xs++x.vs):=by
   show _=_
   rw[List.take_of_length_le (by rw[HXL.out];omega),List.drop_eq_nil_of_le (by rw[HXL.out];omega),List.append_nil]
  obtain⟨a9,c9,ee,hnc⟩:=ownsRow_slice ho;injection ee with ee1 _ ee3;subst ee1 ee3;have HOB:=Lib.hid (rfl:(Value.slice a i c).ownBlock=(Value.slice a i c).ownBlock);generalize hob:(Value.slice a i c).ownBlock=ob at HOB ⊢;replace HOB:=Lib.hid hob;clear hr ho hv hvl hob hvo;have i1:(i:Int)≤(c:Int):=by omega
  go_enter Tryz.func76,Tryz.ntmps76;go_wp2_with (at_builtin;refine wpList_append_any _ rfl (.tmp 23) (.tmp 24) _ rfl base 69 ti _ 2 32 Tryz.underlying24 hi0 hi1 hi2 hi3 rfl (by omega) (.slice a i c) i xs rfl HOO.out w.heap.size _ 1 1 x.vs rfl HRR.out HONX.out (by simp only[maxLen];omega) (by omega) hbase ?_;intro v1 w1 hown1 hg1 hat1;rw[HOB.out] at hg1 hat1;obtain⟨a5,c5,e5,-⟩:=ownsRow_slice hown1;subst e5;have HO1:=Lib.hid hown1;have HG1:=Lib.hid hg1;have HA1:=Lib.hid hat1;clear hown1 hg1 hat1)
  all_goals
   go_ret;refine⟨a5,c5,rfl,⟨by rw[HL2.out];exact HO1.out,HG1.out,?_⟩⟩
   rcases HA1.out with e|e
   ·exact Or.inl e
   ·exact Or.inr ⟨_,e,Nat.le_refl _⟩
 have hlt:i<n:=by omega
 obtain⟨g,cs,ea,hbg,hg,hnc,hcm,hcs,htk⟩:=ownsRow_parts ho (by omega);subst ea;have hgv:g≠vb:=fun e=>hvo (by rw[← e];rfl)
 have hglt:g<w.heap.size:=by
  rcases Nat.lt_or_ge g w.heap.size with h|h
  ·exact h
  ·rw[Array.getElem?_eq_none h] at hg;cases hg
 unfold maxLen at hcm;have RG:Hid (RowV w g 0 cs.toList):=RowV.of_blk hg;have RX:Hid (RowV w g 0 xs):=by have h:=RG.out.take (n*2);rw[htk] at h;exact h
 have HCS:=Lib.hid hcs;have HTK:=Lib.hid htk;have HG:=Lib.hid hg;have HV:=Lib.hid hv;have hszk:(Tryz.prog.info? 69).map (·.size)=some 2:=by rw[hi0];simp[hi2]
 have HSZ:=Lib.hid hszk;clear ho hv hvo hcs htk hg hszk;have HDL:Hid ((xs.drop (i*2)).length=(n-i)*2):=by show _=_;rw[List.length_drop,HXL.out];omega
 have j1:((i:Int) == (n:Int))=false:=by simp<;>omega
 have j2:(i:Int)≤(n:Int):=by omega
 have j3:¬ (i=n):=he;have j4:(n:Int)≤(c:Int):=by omega
 have j5:(i:Int)≤(c:Int):=by omega
 have j6:¬ (c=i):=by omega
 have j7:i≤n:=by omega
 by_cases hroom:n+1≤c
 ·
  have hov:∀ lb cb,(callFunc 100 #[.slice (some ⟨vb,0,none⟩) 1 1,.slice (some ⟨g,(i+1)*2,none⟩) lb cb]).run Tryz.prog w=.ok (.value (.bool false)) w:=fun lb cb=>by
   rw[run_callFunc_extern Tryz.func100 (by kernel_rfl) (by kernel_rfl) (by kernel_rfl) (e:=Extern.SlicesOverlaps.overlaps #[24,24] #[4]) (by kernel_rfl),
    Lib.run_overlaps_apart w 24 4 69 Tryz.underlying24 2 (fun _=>by kernel_rfl) ⟨vb,0,none⟩ ⟨g,(i+1)*2,none⟩ 1 1 lb cb (Ne.symm hgv) 69 69 2 cs.size (by simp[World.shape?,HV.out]) (by simp[World.shape?,HG.out]) (by rw[HCS.out];omega) (RV.out.free 0) (RV.out.free 2)]
   rfl
  have hcp1:∀ ty dc sc,(Builtin.copy_ #[24,24] ty #[.slice (some ⟨g,(i+1)*2,none⟩) (n-i) dc,.slice (some ⟨g,i*2,none⟩) (n+1-i) sc]).run Tryz.prog w.drew=.ok (goInt (Nat.min (n+1-i) (n-i))) (w.drew.setCells g ((i+1)*2) (xs.drop (i*2))):=fun ty dc sc =>
   run_copy_cellsK w.drew _ _ ty 69 2 g ((i+1)*2) (n-i) dc ⟨g,i*2,none⟩ (n+1-i) sc (xs.drop (i*2)) Tryz.underlying24 HSZ.out (by rw[HDL.out,show Nat.min (n+1-i) (n-i)=n-i from Nat.min_eq_right (by omega)])
    (fun j v hj=>by rw[add_mk];have h:=(RX.out.drop (i*2)).drew.cell j v hj;rw[Nat.zero_add] at h;exact h)
    (fun j hj=>by have h:=RG.out.drew.some_ ((i+1)*2+j) (by rw[Array.length_toList,HCS.out];rw[HDL.out] at hj;omega);rw[Nat.zero_add] at h;exact h) (fun j hj=>RG.out.drew.free _) (fun v hv=>HON.out v (List.mem_of_mem_drop hv))
  have R1:RowV (w.drew.setCells g (0+(i+1)*2) (xs.drop (i*2))) g 0 (cs.toList.take ((i+1)*2)++xs.drop (i*2)):=RG.out.drew.set ((i+1)*2) (by rw[HDL.out,Array.length_toList,HCS.out];omega);rw[Nat.zero_add] at R1;have R1V:RowV (w.drew.setCells g ((i+1)*2) (xs.drop (i*2))) vb 0 x.vs:=RV.out.drew.frame (heap_setCellsV g _ _ _ vb (Ne.symm hgv));have hlen1:(cs.toList.take ((i+1)*2)++xs.drop (i*2)).length=(n+1)*2:=by rw[List.length_append,HDL.out,List.length_take,Array.length_toList,HCS.out];omega
  obtain⟨cs1,hk1,hs1⟩:=blk_setCells (w:=w.drew) (E:=69) (cs:=cs) HG.out (xs.drop (i*2)) ((i+1)*2);generalize hW1:w.drew.setCells g ((i+1)*2) (xs.drop (i*2))=W1 at *;have HW1:=Lib.hid hW1;clear hW1;have hcp2:∀ ty dc,(Builtin.copy_ #[24,24] ty #[.slice (some ⟨g,i*2,none⟩) (n+1-i) dc,.slice (some ⟨vb,0,none⟩) 1 1]).run Tryz.prog W1=.ok (goInt (Nat.min 1 (n+1-i))) (W1.setCells g (i*2) x.vs):=fun ty dc =>
   run_copy_cellsK W1 _ _ ty 69 2 g (i*2) (n+1-i) dc ⟨vb,0,none⟩ 1 1 x.vs Tryz.underlying24 HSZ.out (by rw[show Nat.min 1 (n+1-i)=1 from Nat.min_eq_left (by omega),hvl])
    (fun j v hj=>by rw[add_mk];exact R1V.cell j v hj)
    (fun j hj=>by have h:=R1.some_ (i*2+j) (by rw[hlen1];rw[hvl] at hj;omega);rw[Nat.zero_add] at h;exact h) (fun j hj=>R1.free _) HONX.out
  have R2:=R1.mid (ys:=x.vs) (i*2) (by rw[hlen1,hvl];omega);rw[Nat.zero_add] at R2;have hfin:(cs.toList.take ((i+1)*2)++xs.drop (i*2)).take (i*2)++(x.vs++(cs.toList.take ((i+1)*2)++xs.drop (i*2)).drop (i*2+x.vs.length))=xs.take (i*2)++(x.vs++xs.drop (i*2)):=by
   have hl1:(cs.toList.take ((i+1)*2)).length=(i+1)*2:=by rw[List.length_take,Array.length_toList,HCS.out];omega
   rw[List.take_append_of_le_length (by rw[hl1];omega),List.take_take,Nat.min_eq_left (by omega)];rw[show i*2+x.vs.length=(cs.toList.take ((i+1)*2)).length by rw[hl1,hvl];omega,List.drop_left]
   congr 1
   rw[← HTK.out,List.take_take,Nat.min_eq_left (by omega)]
  rw[hfin] at R2;obtain⟨cs2,hk2,hs2⟩:=blk_setCells hk1 x.vs (i*2);have OWN:=Lib.hid (ownsRow_of (base:=base) (cap:=c) (n:=n+1) (k:=2) hk2 R2 (by simp only[List.length_append,hvl,HDL.out,List.length_take,HXL.out];omega) (by rw[hs2,hs1,HCS.out]) hroom (by unfold maxLen;omega) hbg);have GRW:Hid (w.grownBy (W1.setCells g (i*2) x.vs) (some g)):=by
   rw[← HW1.out];have hc0:Chg [g] w ((w.drew.setCells g ((i+1)*2) (xs.drop (i*2))).setCells g (i*2) x.vs):=chg_setCellsV (chg_setCellsV (Chg.refl _ _).drew (by simp) _ _) (by simp) _ _;exact⟨hc0.os,hc0.tape,hc0.output,hc0.size,fun b hb hne=>hc0.block b hb (by simpa using fun e=>hne (by rw[e]))⟩
  have HCP1:=Lib.hid hcp1;have HCP2:=Lib.hid hcp2;clear R1 R1V R2 hlen1 hfin hk1 hs1 hk2 hs2 hcp1 hcp2 hvl;have k1:(n:Int)+1≤(c:Int):=by omega
  have k3:(i:Int)+1≤(n:Int)+1:=by omega
  have k4:(i:Int)≤(n:Int)+1:=by omega
  have k5:¬ (c=i+1):=by omega
  have k7:i≤n+1:=by omega
  go_enter Tryz.func76,Tryz.ntmps76;go_upto_region 15 with (simp only[hov]);clear hov;have kw:IntKind.i64.wrap ((i:Int)+1)=(i:Int)+1:=IntWalk.i64_in _ (by omega);have kt:((i:Int)+1).toNat=i+1:=by omega
  have kz:(0:Int)≤(i:Int)+1:=by omega
  refine wp_region_ord 8 [(0,true),(1,true),(2,true),(3,true),(4,true),(5,true),(6,true),(7,true)] (fun W=>True) (by kernel_rfl) (by kernel_rfl) trivial (fun hHeld=>?_);refine wpOrd_read (v:=?_) rfl (fun _ _ _ h=>h) ?_ ?_
  rotate_left
  ·(intro W hSW;(try dsimp only at hSW);(go_simp<;>with_reducible rfl))
  (try simp only[Act.put,List.setIfInBounds_toArray,List.set_cons_zero,List.set_cons_succ])
  refine wpOrd_read (v:=?_) rfl (fun _ _ _ h=>h) ?_ ?_
  rotate_left
  ·(intro W hSW;(try dsimp only at hSW);(go_simp<;>with_reducible rfl))
  (try simp only[Act.put,List.setIfInBounds_toArray,List.set_cons_zero,List.set_cons_succ])
  refine wpOrd_read (v:=?_) rfl (fun _ _ _ h=>h) ?_ ?_
  rotate_left
  ·(intro W hSW;(try dsimp only at hSW);(go_simp<;>with_reducible rfl))
  (try simp only[Act.put,List.setIfInBounds_toArray,List.set_cons_zero,List.set_cons_succ])
  refine wpOrd_read (v:=?_) rfl (fun _ _ _ h=>h) ?_ ?_
  rotate_left
  ·(intro W hSW;(try dsimp only at hSW);(go_simp<;>with_reducible rfl))
  (try simp only[Act.put,List.setIfInBounds_toArray,List.set_cons_zero,List.set_cons_succ])
  refine wpOrd_read (v:=?_) rfl (fun _ _ _ h=>h) ?_ ?_
  rotate_left
  ·(intro W hSW;(try dsimp only at hSW);(go_simp<;>with_reducible rfl))
  (try simp only[Act.put,List.setIfInBounds_toArray,List.set_cons_zero,List.set_cons_succ])
  refine wpOrd_read (v:=?_) rfl (fun _ _ _ h=>h) ?_ ?_
  rotate_left
  ·(intro W hSW;(try dsimp only at hSW);(go_simp<;>with_reducible rfl))
  (try simp only[Act.put,List.setIfInBounds_toArray,List.set_cons_zero,List.set_cons_succ])
  refine wpOrd_read (v:=?_) rfl (fun _ _ _ h=>h) ?_ ?_
  rotate_left
  ·(intro W hSW;(try dsimp only at hSW);(go_simp<;>with_reducible rfl))
  (try simp only[Act.put,List.setIfInBounds_toArray,List.set_cons_zero,List.set_cons_succ])
  refine wpOrd_read (v:=?_) rfl (fun _ _ _ h=>h) ?_ ?_
  rotate_left
  ·(intro W hSW;(try dsimp only at hSW);(go_simp<;>with_reducible rfl))
  (try simp only[Act.put,List.setIfInBounds_toArray,List.set_cons_zero,List.set_cons_succ])
  refine wpOrd_nil ?_;simp only[List.drop_succ_cons,List.drop_zero];clear kw kt kz;refine wpList_copy_run rfl (.tmp 73) (.tmp 76) _ _ rfl rfl rfl (HCP1.out _ _ _) ?_;go_wp2_with (with_reducible refine wpList_copy_run rfl (.tmp 80) (.tmp 81) _ _ rfl rfl rfl (HCP2.out _ _) ?_);go_ret;exact⟨_,_,rfl,⟨OWN.out,GRW.out,Or.inl rfl⟩⟩
 ·
  obtain rfl:c=n:=by omega
  obtain⟨zz,hzz⟩:∃ zz:Value,zz=.agg #[.string ⟨#[]⟩,.string ⟨#[]⟩]:=⟨_,rfl⟩
  have hzs:zz.cells.size=2:=by rw[hzz];rfl
  have hi1':ti.zero=some zz:=by rw[hzz];exact hi1
  have hold:(Builtin.firstCells ti.size i (.slice (some ⟨g,0,none⟩) i c)).run Tryz.prog w.drew=.ok (xs.take (i*2)).toArray w.drew:=by
   rw[hi2];refine run_firstCells_some w.drew 2 i ⟨g,0,none⟩ i c (xs.take (i*2)) (by rw[List.length_take,HXL.out];omega) (fun j v hj=>?_);rw[add_mk];exact (RX.out.take (i*2)).drew.cell j v hj
  have hik:i+(c+1-i)=c+1:=by omega
  have hkk:(c:Int)+1-(i:Int)=((c+1-i:Nat):Int):=by omega
  have hrz:∀ ty,(Builtin.append_ #[24,3] ty #[.slice (some ⟨g,0,none⟩) i c,.int .i64 ((c:Int)+1-(i:Int))]).run Tryz.prog w =
    .ok (.slice (some ⟨w.heap.size,0,none⟩) (c+1) (grownCap w (c+1) c 69)) (w.drew.alloc (.cells ((xs.take (i*2)).toArray++Builtin.zeroCells zz.cells (c+1-i)++Builtin.zeroCells zz.cells (grownCap w (c+1) c 69-(c+1))) 69)):=fun ty=>by
   have h:=Lib.run_append_grow_zeros (P:=Tryz.prog) w 24 3 ty 69 ti zz .i64 .i64 Tryz.underlying24 Tryz.underlying3 hi0 hi1' (some ⟨g,0,none⟩) i c (xs.take (i*2)) hold (c+1-i) (by omega) (by omega) (by omega) (by omega) (by rw[hi3];omega) (by rw[hi3,hik];exact growslice_fits (by omega) (by omega));rw[hik] at h;rw[hkk];exact h
  have hGn:c+1≤grownCap w (c+1) c 69:=grownCap_ge w _ _ _;have hGm:=grownCap_le_maxLen w (c+1) c 69 (by unfold maxLen;omega);unfold maxLen at hGm;generalize grownCap w (c+1) c 69=G at *;obtain⟨ROW,hROW⟩:∃ ROW:Array Value,ROW=(xs.take (i*2)).toArray++Builtin.zeroCells zz.cells (c+1-i)++Builtin.zeroCells zz.cells (G-(c+1)):=⟨_,rfl⟩
  rw[← hROW] at hrz;have hRl:ROW.size=G*2:=by
   rw[hROW,Array.size_append,Array.size_append,zeroCells_size,zeroCells_size,hzs,List.size_toArray,List.length_take,HXL.out];omega
  have hRt:ROW.toList.take (i*2)=xs.take (i*2):=by
   rw[hROW,Array.toList_append,Array.toList_append,List.append_assoc,List.take_append_of_le_length (by simp[HXL.out];omega),List.toList_toArray,List.take_take,Nat.min_self]
  have k1:(w.drew.alloc (.cells ROW 69)).heap[w.heap.size]? = some (.cells ROW 69 (0,0)):=by show (w.heap.push _)[w.heap.size]? = _;simp
  have RX1:RowV (w.drew.alloc (.cells ROW 69)) g 0 xs:=RX.out.drew.frame (Below.heap_alloc w.drew _ g hglt);have RV1:RowV (w.drew.alloc (.cells ROW 69)) vb 0 x.vs:=RV.out.drew.frame (Below.heap_alloc w.drew _ vb hvlt);have hc1:∀ b,b<w.heap.size→(w.drew.alloc (.cells ROW 69)).heap[b]? = w.heap[b]?:=fun b hb=>Below.heap_alloc w.drew _ b hb
  have hq1:(w.drew.alloc (.cells ROW 69)).os=w.os∧(w.drew.alloc (.cells ROW 69)).tape=w.tape∧(w.drew.alloc (.cells ROW 69)).output=w.output∧(w.drew.alloc (.cells ROW 69)).heap.size=w.heap.size+1:=⟨rfl,rfl,rfl,by show (w.heap.push _).size=_;simp⟩
  clear hold hik hkk hROW;generalize w.drew.alloc (.cells ROW 69)=W1 at *;have RW1:=RowV.of_blk k1;have hgn:g≠w.heap.size:=by omega
  have hvn:vb≠w.heap.size:=by omega
  have hcpA:∀ ty dc,(Builtin.copy_ #[24,24] ty #[.slice (some ⟨w.heap.size,i*2,none⟩) (c+1-i) dc,.slice (some ⟨vb,0,none⟩) 1 1]).run Tryz.prog W1=.ok (goInt (Nat.min 1 (c+1-i))) (W1.setCells w.heap.size (i*2) x.vs):=fun ty dc =>
   run_copy_cellsK W1 _ _ ty 69 2 w.heap.size (i*2) (c+1-i) dc ⟨vb,0,none⟩ 1 1 x.vs Tryz.underlying24 HSZ.out (by rw[show Nat.min 1 (c+1-i)=1 from Nat.min_eq_left (by omega),hvl])
    (fun j v hj=>by rw[add_mk];exact RV1.cell j v hj)
    (fun j hj=>by have h:=RW1.some_ (i*2+j) (by rw[Array.length_toList,hRl];rw[hvl] at hj;omega);rw[Nat.zero_add] at h;exact h) (fun j hj=>RW1.free _) HONX.out
  have R2:=RW1.mid (ys:=x.vs) (i*2) (by rw[hvl,Array.length_toList,hRl];omega);rw[Nat.zero_add,hRt] at R2;have RX2:RowV (W1.setCells w.heap.size (i*2) x.vs) g 0 xs:=RX1.frame (heap_setCellsV _ _ _ _ g hgn);obtain⟨cs2,hk2,hs2⟩:=blk_setCells k1 x.vs (i*2);have hc2:∀ b,b<w.heap.size→(W1.setCells w.heap.size (i*2) x.vs).heap[b]? = w.heap[b]?:=fun b hb=>(heap_setCellsV _ _ _ _ b (by omega)).trans (hc1 b hb)
  have hq2:(W1.setCells w.heap.size (i*2) x.vs).os=w.os∧(W1.setCells w.heap.size (i*2) x.vs).tape=w.tape∧(W1.setCells w.heap.size (i*2) x.vs).output=w.output∧(W1.setCells w.heap.size (i*2) x.vs).heap.size=w.heap.size+1:=by
   have h:=chg_setCellsV (b:=w.heap.size) (Chg.refl [w.heap.size] W1) (by simp) x.vs (i*2);exact⟨h.os.trans hq1.1,h.tape.trans hq1.2.1,h.output.trans hq1.2.2.1,by rw[size_setCellsV];exact hq1.2.2.2⟩
  have HCPA:=Lib.hid hcpA;clear hcpA RX1 RV1 hc1 hq1;generalize W1.setCells w.heap.size (i*2) x.vs=W2 at *;have hl2:(xs.take (i*2)++(x.vs++ROW.toList.drop (i*2+x.vs.length))).length=G*2:=by
   simp only[List.length_append,List.length_take,List.length_drop,Array.length_toList,hRl,hvl,HXL.out];omega
  have hcpB:∀ ty dc sc,(Builtin.copy_ #[24,24] ty #[.slice (some ⟨w.heap.size,(i+1)*2,none⟩) (c-i) dc,.slice (some ⟨g,i*2,none⟩) (c-i) sc]).run Tryz.prog W2.drew=.ok (goInt (Nat.min (c-i) (c-i))) (W2.drew.setCells w.heap.size ((i+1)*2) (xs.drop (i*2))):=fun ty dc sc =>
   run_copy_cellsK W2.drew _ _ ty 69 2 w.heap.size ((i+1)*2) (c-i) dc ⟨g,i*2,none⟩ (c-i) sc (xs.drop (i*2)) Tryz.underlying24 HSZ.out (by rw[HDL.out,show Nat.min (c-i) (c-i)=c-i from Nat.min_self _])
    (fun j v hj=>by rw[add_mk];have h:=(RX2.drop (i*2)).drew.cell j v hj;rw[Nat.zero_add] at h;exact h)
    (fun j hj=>by have h:=R2.drew.some_ ((i+1)*2+j) (by rw[hl2];rw[HDL.out] at hj;omega);rw[Nat.zero_add] at h;exact h) (fun j hj=>R2.drew.free _) (fun v hv=>HON.out v (List.mem_of_mem_drop hv))
  have R3:=R2.drew.set (ys:=xs.drop (i*2)) ((i+1)*2) (by rw[hl2,HDL.out];omega);rw[Nat.zero_add] at R3;have hfin:(xs.take (i*2)++(x.vs++ROW.toList.drop (i*2+x.vs.length))).take ((i+1)*2)++xs.drop (i*2)=xs.take (i*2)++(x.vs++xs.drop (i*2)):=by
   rw[← List.append_assoc (xs.take (i*2)) x.vs,show (i+1)*2=(xs.take (i*2)++x.vs).length by simp only[List.length_append,List.length_take,HXL.out,hvl];omega,List.take_left,List.append_assoc]
  rw[hfin] at R3;obtain⟨cs3,hk3,hs3⟩:=blk_setCells (w:=W2.drew) (E:=69) (cs:=cs2) hk2 (xs.drop (i*2)) ((i+1)*2);have OWN:=Lib.hid (ownsRow_of (base:=base) (cap:=G) (n:=c+1) (k:=2) hk3 R3 (by simp only[List.length_append,hvl,HDL.out,List.length_take,HXL.out];omega) (by rw[hs3,hs2,hRl]) hGn (by unfold maxLen;omega) hbase);have GRW:Hid (w.grownBy (W2.drew.setCells w.heap.size ((i+1)*2) (xs.drop (i*2))) (some g)):=by
   have h:=chg_setCellsV (b:=w.heap.size) (Chg.refl [w.heap.size] W2).drew (by simp) (xs.drop (i*2)) ((i+1)*2);exact⟨h.os.trans hq2.1,h.tape.trans hq2.2.1,h.output.trans hq2.2.2.1,by rw[size_setCellsV];show w.heap.size≤W2.heap.size;omega,fun b hb hne=>(heap_setCellsV _ _ _ _ b (by omega)).trans (hc2 b hb)⟩
  have HCPB:=Lib.hid hcpB;have HRZ:=Lib.hid hrz;clear hcpB hrz R2 R3 hfin hk2 hs2 hk3 hs3 hl2 RX2 RW1 hc2 hq2 hRl hRt k1 hvl hzs hi1' hzz;have k1:(c:Int)<(c:Int)+1:=by omega
  have k2:¬ ((c:Int)+1≤(c:Int)):=by omega
  have k3:¬ (G=i):=by omega
  have k5:¬ (G=i+1):=by omega
  have k6:(c:Int)+1≤(G:Int):=by omega
  have k7:i≤c+1:=by omega
  have k8:(i:Int)≤(c:Int)+1:=by omega
  have k9:(i:Int)+1≤(c:Int)+1:=by omega
  go_enter Tryz.func76,Tryz.ntmps76;go_upto_region 11 with (first|(at_builtin;refine wpList_append_run rfl (.tmp 34) (.tmp 39) _ _ rfl rfl rfl (HRZ.out _) ?_)|(with_reducible refine wpList_copy_run rfl (.tmp 43) (.tmp 44) _ _ rfl rfl rfl (HCPA.out _ _) ?_));have kw:IntKind.i64.wrap ((i:Int)+1)=(i:Int)+1:=IntWalk.i64_in _ (by omega);have kt:((i:Int)+1).toNat=i+1:=by omega
  have kz:(0:Int)≤(i:Int)+1:=by omega
  refine wp_region_ord 8 [(0,true),(1,true),(2,true),(3,true),(4,true),(5,true),(6,true),(7,true)] (fun W=>True) (by kernel_rfl) (by kernel_rfl) trivial (fun hHeld=>?_);refine wpOrd_read (v:=?_) rfl (fun _ _ _ h=>h) ?_ ?_
  rotate_left
  ·(intro W hSW;(try dsimp only at hSW);(go_simp<;>with_reducible rfl))
  (try simp only[Act.put,List.setIfInBounds_toArray,List.set_cons_zero,List.set_cons_succ])
  refine wpOrd_read (v:=?_) rfl (fun _ _ _ h=>h) ?_ ?_
  rotate_left
  ·(intro W hSW;(try dsimp only at hSW);(go_simp<;>with_reducible rfl))
  (try simp only[Act.put,List.setIfInBounds_toArray,List.set_cons_zero,List.set_cons_succ])
  refine wpOrd_read (v:=?_) rfl (fun _ _ _ h=>h) ?_ ?_
  rotate_left
  ·(intro W hSW;(try dsimp only at hSW);(go_simp<;>with_reducible rfl))
  (try simp only[Act.put,List.setIfInBounds_toArray,List.set_cons_zero,List.set_cons_succ])
  refine wpOrd_read (v:=?_) rfl (fun _ _ _ h=>h) ?_ ?_
  rotate_left
  ·(intro W hSW;(try dsimp only at hSW);(go_simp<;>with_reducible rfl))
  (try simp only[Act.put,List.setIfInBounds_toArray,List.set_cons_zero,List.set_cons_succ])
  refine wpOrd_read (v:=?_) rfl (fun _ _ _ h=>h) ?_ ?_
  rotate_left
  ·(intro W hSW;(try dsimp only at hSW);(go_simp<;>with_reducible rfl))
  (try simp only[Act.put,List.setIfInBounds_toArray,List.set_cons_zero,List.set_cons_succ])
  refine wpOrd_read (v:=?_) rfl (fun _ _ _ h=>h) ?_ ?_
  rotate_left
  ·(intro W hSW;(try dsimp only at hSW);(go_simp<;>with_reducible rfl))
  (try simp only[Act.put,List.setIfInBounds_toArray,List.set_cons_zero,List.set_cons_succ])
  refine wpOrd_read (v:=?_) rfl (fun _ _ _ h=>h) ?_ ?_
  rotate_left
  ·(intro W hSW;(try dsimp only at hSW);(go_simp<;>with_reducible rfl))
  (try simp only[Act.put,List.setIfInBounds_toArray,List.set_cons_zero,List.set_cons_succ])
  refine wpOrd_read (v:=?_) rfl (fun _ _ _ h=>h) ?_ ?_
  rotate_left
  ·(intro W hSW;(try dsimp only at hSW);(go_simp<;>with_reducible rfl))
  (try simp only[Act.put,List.setIfInBounds_toArray,List.set_cons_zero,List.set_cons_succ])
  refine wpOrd_nil ?_;simp only[List.drop_succ_cons,List.drop_zero];clear kw kt kz;refine wpList_copy_run rfl (.tmp 50) (.tmp 53) _ _ rfl rfl rfl (HCPB.out _ _ _) ?_;go_wp2;go_ret;exact⟨_,_,rfl,⟨OWN.out,GRW.out,Or.inr ⟨_,rfl,Nat.le_refl _⟩⟩⟩
end Go.Proofs.YtmkkiglcpedkiaaGreatDoor
