/- Contract: a register with a further change, of the program. Conditions: rising keys, bounded lengths. -/
import Derived.Test.YtmkkiglcpedkiaaGreatDoorReg3
set_option linter.unusedVariables false
set_option linter.unusedSimpArgs false
namespace Go.Proofs.YtmkkiglcpedkiaaGreatDoor
open Go.RowKit
set_option maxHeartbeats 8000000
set_option maxRecDepth 100000
def wReg (r:DRegister) (c:DChange):DRegister:=⟨putL r.records c.key c.new_,r.changes++[c]⟩
def withR (r:DRegister) (c:DChange):DRegister × Int:=if 32<(putL r.records c.key c.new_).length then (⟨[],[]⟩,5) else (if 48<r.changes.length+1 then (⟨[],[]⟩,5) else (wReg r c,0))
theorem with_any (r:DRegister) (ch:DChange) (v0 v1:Value) (w:World) (h0:Rd w.heap.size w (DRecord.sT r.records) v0) (h1:Rd w.heap.size w (DChange.sT r.changes) v1) (hn0:r.records.length≤1000) (hn1:r.changes.length≤1000) (hr:Rise r.records) (hdel:eqS ch.new_ emptyS=true→∃ (i:Nat) (hi:i<r.records.length),eqS r.records[i].key ch.key=true) :
  Calls Tryz.prog 22 #[.agg #[v0,v1],.agg #[.int .i64 ch.day,.string ch.key,.string ch.old_,.string ch.new_]] w (NewR (withR r ch) w):=by
 obtain⟨A0,C0,rfl,_,_,_⟩:=DRecord.rd h0;obtain⟨A1,C1,rfl,_,_,_⟩:=DChange.rd h1;have HRI:=Lib.hid hr;have HDEL:=Lib.hid hdel;obtain⟨iC,hC0,hC1,hC2,hC3⟩:=info_parts infoChange;clear hr hdel;have BB0_:Below w.heap.size w (((w.alloc (.cells #[.slice A0 r.records.length C0,.slice A1 r.changes.length C1] 27)).alloc (.cells #[.int .i64 ch.day,.string ch.key,.string ch.old_,.string ch.new_] 44)).alloc (.cells #[.slice none 0 0,.slice none 0 0] 27)):=Below.alloc (Below.alloc (Below.alloc (Below.refl _ _) (by first|exact Nat.le_refl _|(simp;done)|(simp<;>omega)) _) (by first|exact Nat.le_refl _|(simp;done)|(simp<;>omega)) _) (by first|exact Nat.le_refl _|(simp;done)|(simp<;>omega)) _;have zz0:w.heap.size+3≤(((w.alloc (.cells #[.slice A0 r.records.length C0,.slice A1 r.changes.length C1] 27)).alloc (.cells #[.int .i64 ch.day,.string ch.key,.string ch.old_,.string ch.new_] 44)).alloc (.cells #[.slice none 0 0,.slice none 0 0] 27)).heap.size:=by simp
 have k_R:(((w.alloc (.cells #[.slice A0 r.records.length C0,.slice A1 r.changes.length C1] 27)).alloc (.cells #[.int .i64 ch.day,.string ch.key,.string ch.old_,.string ch.new_] 44)).alloc (.cells #[.slice none 0 0,.slice none 0 0] 27)).heap[w.heap.size]? = some (.cells #[.slice A0 r.records.length C0,.slice A1 r.changes.length C1] 27 (0,0)):=by
  have h:=bkN w #[.slice A0 r.records.length C0,.slice A1 r.changes.length C1] 27;replace h:=bkA h (by first|(simp;done)|(simp<;>omega)) (.cells #[.int .i64 ch.day,.string ch.key,.string ch.old_,.string ch.new_] 44);replace h:=bkA h (by first|(simp;done)|(simp<;>omega)) (.cells #[.slice none 0 0,.slice none 0 0] 27);exact h
 have KR_0:=Lib.hid k_R;have k_C:(((w.alloc (.cells #[.slice A0 r.records.length C0,.slice A1 r.changes.length C1] 27)).alloc (.cells #[.int .i64 ch.day,.string ch.key,.string ch.old_,.string ch.new_] 44)).alloc (.cells #[.slice none 0 0,.slice none 0 0] 27)).heap[w.heap.size+1]? = some (.cells #[.int .i64 ch.day,.string ch.key,.string ch.old_,.string ch.new_] 44 (0,0)):=by
  have h:=bkN (w.alloc (.cells #[.slice A0 r.records.length C0,.slice A1 r.changes.length C1] 27)) #[.int .i64 ch.day,.string ch.key,.string ch.old_,.string ch.new_] 44;rw[show (w.alloc (.cells #[.slice A0 r.records.length C0,.slice A1 r.changes.length C1] 27)).heap.size=w.heap.size+1 by simp] at h;replace h:=bkA h (by first|(simp;done)|(simp<;>omega)) (.cells #[.slice none 0 0,.slice none 0 0] 27);exact h
 have KC_0:=Lib.hid k_C;have k_O:(((w.alloc (.cells #[.slice A0 r.records.length C0,.slice A1 r.changes.length C1] 27)).alloc (.cells #[.int .i64 ch.day,.string ch.key,.string ch.old_,.string ch.new_] 44)).alloc (.cells #[.slice none 0 0,.slice none 0 0] 27)).heap[w.heap.size+2]? = some (.cells #[.slice none 0 0,.slice none 0 0] 27 (0,0)):=by
  have h:=bkN ((w.alloc (.cells #[.slice A0 r.records.length C0,.slice A1 r.changes.length C1] 27)).alloc (.cells #[.int .i64 ch.day,.string ch.key,.string ch.old_,.string ch.new_] 44)) #[.slice none 0 0,.slice none 0 0] 27;rw[show ((w.alloc (.cells #[.slice A0 r.records.length C0,.slice A1 r.changes.length C1] 27)).alloc (.cells #[.int .i64 ch.day,.string ch.key,.string ch.old_,.string ch.new_] 44)).heap.size=w.heap.size+2 by simp] at h;exact h
 have KO_0:=Lib.hid k_O;clear k_R k_C k_O;have BB_0:=Lib.hid BB0_;clear BB0_;go_enter Tryz.func22,Tryz.ntmps22;go_upto_region 1 with (fail);generalize (((w.alloc (.cells #[.slice A0 r.records.length C0,.slice A1 r.changes.length C1] 27)).alloc (.cells #[.int .i64 ch.day,.string ch.key,.string ch.old_,.string ch.new_] 44)).alloc (.cells #[.slice none 0 0,.slice none 0 0] 27))=W0 at *;have HR0:=Lib.hid (h0.below BB_0.out);have HR1:=Lib.hid (h1.below BB_0.out);clear h0 h1;have HKB:Hid (∀ W:World,Below W0.heap.size W0 W→W.cell? ⟨w.heap.size,0,none⟩=some (.slice A0 r.records.length C0)∧W.cell? ⟨w.heap.size,1,none⟩=some (.slice A1 r.changes.length C1)∧W.cell? ⟨w.heap.size+1,0,none⟩=some (.int .i64 ch.day)∧W.cell? ⟨w.heap.size+1,1,none⟩=some (.string ch.key)∧W.cell? ⟨w.heap.size+1,2,none⟩=some (.string ch.old_)∧W.cell? ⟨w.heap.size+1,3,none⟩=some (.string ch.new_)):=fun W hW=>⟨bkC ((hW.block _ (by omega)).trans KR_0.out) 0 rfl,bkC ((hW.block _ (by omega)).trans KR_0.out) 1 rfl,bkC ((hW.block _ (by omega)).trans KC_0.out) 0 rfl,bkC ((hW.block _ (by omega)).trans KC_0.out) 1 rfl,bkC ((hW.block _ (by omega)).trans KC_0.out) 2 rfl,bkC ((hW.block _ (by omega)).trans KC_0.out) 3 rfl⟩
 have BBd:Hid (Below W0.heap.size W0 W0.drew):=below_drew1 W0;generalize hPL:(putL r.records ch.key ch.new_)=PL at *;have HPL:=Lib.hid hPL;clear hPL;go_cut [6] (fun s0 wx=>∃ (hb:Nat) (a3:Option Addr) (c3:Nat) (a4:Option Addr) (c4:Nat) (fp:List Nat),s0=.pointer (some ⟨hb,0,none⟩)∧wx.heap[hb]? = some (.cells #[.slice a3 PL.length c3,.slice a4 (r.changes.length+1) c4] 27 (0,0))∧W0.heap.size≤hb∧hb<wx.heap.size∧Below W0.heap.size W0 wx∧OwnV wx (DRegister.tr ⟨PL,r.changes++[ch]⟩) [.slice a3 PL.length c3,.slice a4 (r.changes.length+1) c4] fp∧In W0.heap.size wx.heap.size fp)
 case first =>
  refine wp_region_tree 12 (.read 0 (.read 1 (.read 2 (.read 4 (.read 5 (.read 7 (.three 3 8 11 (.three 6 8 11 (.two 8 11 (.two 9 11 (.read 10 (.one 11 .nil)) (.one 9 (.read 10 .nil))) (.one 8 (.one 9 (.read 10 .nil)))) (.two 6 11 (.two 9 11 (.read 10 (.one 11 .nil)) (.one 9 (.read 10 .nil))) (.one 6 (.one 9 (.read 10 .nil)))) (.two 6 8 (.one 8 (.one 9 (.read 10 .nil))) (.one 6 (.one 9 (.read 10 .nil))))) (.two 3 11 (.two 6 11 (.two 9 11 (.read 10 (.one 11 .nil)) (.one 9 (.read 10 .nil))) (.one 6 (.one 9 (.read 10 .nil)))) (.one 3 (.one 6 (.one 9 (.read 10 .nil))))) (.two 3 8 (.two 6 8 (.one 8 (.one 9 (.read 10 .nil))) (.one 6 (.one 9 (.read 10 .nil)))) (.one 3 (.one 6 (.one 9 (.read 10 .nil)))))))))))) (fun W=>W.cell? ⟨w.heap.size,0,none⟩=some (.slice A0 r.records.length C0)∧W.cell? ⟨w.heap.size,1,none⟩=some (.slice A1 r.changes.length C1)∧W.cell? ⟨w.heap.size+1,0,none⟩=some (.int .i64 ch.day)∧W.cell? ⟨w.heap.size+1,1,none⟩=some (.string ch.key)∧W.cell? ⟨w.heap.size+1,2,none⟩=some (.string ch.old_)∧W.cell? ⟨w.heap.size+1,3,none⟩=some (.string ch.new_)) (by kernel_rfl) (by kernel_rfl) (HKB.out _ BBd.out) ?_;have zd:W0.heap.size≤W0.drew.heap.size:=Nat.le_refl _;generalize W0.drew=Y at *;refine wpTree_read (v:=?_) rfl (fun _ _ _ h=>h) ?_ ?_
  rotate_left
  ·(intro W hSW;(try dsimp only at hSW);(go_simp<;>with_reducible rfl))
  (try simp only[Act.put,List.setIfInBounds_toArray,List.set_cons_zero,List.set_cons_succ])
  refine wpTree_read (v:=?_) rfl (fun _ _ _ h=>h) ?_ ?_
  rotate_left
  ·(intro W hSW;(try dsimp only at hSW);(go_simp<;>with_reducible rfl))
  (try simp only[Act.put,List.setIfInBounds_toArray,List.set_cons_zero,List.set_cons_succ])
  refine wpTree_read (v:=?_) rfl (fun _ _ _ h=>h) ?_ ?_
  rotate_left
  ·(intro W hSW;(try dsimp only at hSW);(go_simp<;>with_reducible rfl))
  (try simp only[Act.put,List.setIfInBounds_toArray,List.set_cons_zero,List.set_cons_succ])
  refine wpTree_read (v:=?_) rfl (fun _ _ _ h=>h) ?_ ?_
  rotate_left
  ·(intro W hSW;(try dsimp only at hSW);(go_simp<;>with_reducible rfl))
  (try simp only[Act.put,List.setIfInBounds_toArray,List.set_cons_zero,List.set_cons_succ])
  refine wpTree_read (v:=?_) rfl (fun _ _ _ h=>h) ?_ ?_
  rotate_left
  ·(intro W hSW;(try dsimp only at hSW);(go_simp<;>with_reducible rfl))
  (try simp only[Act.put,List.setIfInBounds_toArray,List.set_cons_zero,List.set_cons_succ])
  refine wpTree_read (v:=?_) rfl (fun _ _ _ h=>h) ?_ ?_
  rotate_left
  ·(intro W hSW;(try dsimp only at hSW);(go_simp<;>with_reducible rfl))
  (try simp only[Act.put,List.setIfInBounds_toArray,List.set_cons_zero,List.set_cons_succ])
  refine wpTree_three ?_ ?_ ?_
  ·refine stepT_mk rfl (fun K hK=>?_)
   go_simp;refine (made_any r.records ch _ Y ((HR0.out.below (BBd.out.mono (by omega))).mono (by omega)) hn0 HRI.out HDEL.out).mono ?_;rw[HPL.out];rintro e Y1 ⟨a3,c3,fp3,rfl,hb1,ho,hi⟩;refine hK.out _ _ (HKB.out _ (BBd.out.trans (hb1.mono (by omega)))) ?_;clear hK K
   (try simp only[Act.put,List.setIfInBounds_toArray,List.set_cons_zero,List.set_cons_succ])
   have O3_1:=Lib.hid ho;have I3:In Y.heap.size Y1.heap.size fp3:=hi;clear ho hi;have bs1:Y.heap.size≤Y1.heap.size:=hb1.size;have BY1:=Lib.hid (BBd.out.trans (hb1.mono (by omega)));clear hb1;refine wpTree_three ?_ ?_ ?_
   ·refine stepT_mk rfl (fun K hK=>?_)
    go_simp;refine (cloneChange_raw r.changes _ W0.heap.size Y1 ((HR1.out.mono (by omega)).below BY1.out) (by omega) (by omega)).mono ?_;rintro e Y2 ⟨a4,c4,xs,rfl,hb2,how,hx⟩;rw[flat_lits DChange.tr DChange.vs DChange.tr_vs] at hx;obtain rfl:=RdV_vals _ _ hx;clear hx;refine hK.out _ _ (HKB.out _ (BY1.out.trans (hb2.mono (by omega)))) ?_;clear hK K
    (try simp only[Act.put,List.setIfInBounds_toArray,List.set_cons_zero,List.set_cons_succ])
    have RW_2:=Lib.hid how;have RB:∀ b,(Value.slice a4 r.changes.length c4).ownBlock=some b→Y1.heap.size≤b∧b<Y2.heap.size:=fun b hb=>ownsRow_block how hb
    clear how;have bs2:Y1.heap.size≤Y2.heap.size:=hb2.size;have BY2:=Lib.hid (BY1.out.trans (hb2.mono (by omega)));have O3_2:=Lib.hid (O3_1.out.below I3 (by omega) hb2);clear hb2;refine wpTree_two ?_ ?_
    ·refine stepT_mk rfl (fun K hK=>?_)
     go_simp;have hb3:Below Y2.heap.size Y2 (Y2.alloc (.cells #[.int .i64 ch.day,.string ch.key,.string ch.old_,.string ch.new_] 44)):=below_alloc _ _;have kk3:=Lib.hid (bkN Y2 #[.int .i64 ch.day,.string ch.key,.string ch.old_,.string ch.new_] 44);have zl3:Y2.heap.size+1≤(Y2.alloc (.cells #[.int .i64 ch.day,.string ch.key,.string ch.old_,.string ch.new_] 44)).heap.size:=by simp
     refine hK.out _ _ (HKB.out _ (BY2.out.trans (hb3.mono (by omega)))) ?_;clear hK K
     (try simp only[Act.put,List.setIfInBounds_toArray,List.set_cons_zero,List.set_cons_succ])
     generalize (Y2.alloc (.cells #[.int .i64 ch.day,.string ch.key,.string ch.old_,.string ch.new_] 44))=Y3 at *;have bs3:Y2.heap.size≤Y3.heap.size:=hb3.size;have BY3:=Lib.hid (BY2.out.trans (hb3.mono (by omega)));have O3_3:=Lib.hid (O3_2.out.below I3 (by omega) hb3);have RW_3:=Lib.hid (ownsRow_frame RW_2.out (fun g hg=>hb3.block g (by have:=(RB g hg).2;omega)));clear hb3;refine wpTree_two ?_ ?_
     ·refine stepT_mk rfl (fun K hK=>?_)
      have hrd:Reads Y3 Y3.heap.size 4 (some ⟨Y2.heap.size,0,none⟩) 1 ch.vs:=⟨rfl,fun _=>⟨⟨Y2.heap.size,0,none⟩,rfl,by show Y2.heap.size<_;omega,fun j u hu=>by rw[add_mk,Nat.zero_add];exact (cell_of_row' kk3.out j).trans (by simpa [DChange.vs] using hu)⟩⟩
      refine wp_append_any _ (.tmp 13) (.tmp 15) _ rfl Y1.heap.size 44 iC _ 4 56 Tryz.underlying25 hC0 hC1 hC2 hC3 rfl (by omega) (.slice a4 r.changes.length c4) r.changes.length _ rfl RW_3.out Y3.heap.size _ 1 1 ch.vs rfl hrd (fun u hu=>DChange.vs_one [ch] u (by simpa using hu)) (by simp only[maxLen];omega) (by omega) (by omega) ?_;intro v5 Y4 hown hg hat;obtain⟨a5,c5,rfl,_⟩:=ownsRow_slice hown;have hb4:Below W0.heap.size Y3 Y4:=(Below.refl _ _).grown hg (by omega) (fun k hk=>by have:=RB k hk;omega);have bs4:Y3.heap.size≤Y4.heap.size:=hg.size;have kp4:∀ b,b<Y3.heap.size→(Value.slice a4 r.changes.length c4).ownBlock≠some b→Y4.heap[b]? = Y3.heap[b]?:=fun b hb hne=>hg.block b hb (fun e=>hne e.symm)
      have NB:∀ b,(Value.slice a5 (r.changes.length+1) c5).ownBlock=some b→(∃ b0,(Value.slice a4 r.changes.length c4).ownBlock=some b0∧b=b0)∨(b=Y3.heap.size∧b<Y4.heap.size):=fun b hb=>by
       have hlt_:=(ownsRow_block hown hb).2
       rcases hat with e|e
       ·rw[e] at hb;exact Or.inl ⟨b,hb,rfl⟩
       ·rw[e] at hb;injection hb with hb;exact Or.inr ⟨hb.symm,hlt_⟩
      refine hK.out _ _ (HKB.out _ (BY3.out.trans hb4)) ?_;clear hK K hat hg hrd
      (try simp only[Act.put,List.setIfInBounds_toArray,List.set_cons_zero,List.set_cons_succ])
      have RW_4:=Lib.hid hown;clear hown;have O3_4:=Lib.hid (O3_3.out.frame (fun b hb=>kp4 b (by have:=(I3 b hb).2;omega) (fun e=>by have:=(I3 b hb).2;have:=RB _ e;omega)));have BY4:=Lib.hid (BY3.out.trans hb4);clear hb4 kp4;refine wpTree_read (v:=?_) rfl (fun _ _ _ h=>h) ?_ ?_
      rotate_left
      ·(intro W hSW;(try dsimp only at hSW);(go_simp<;>with_reducible rfl))
      (try simp only[Act.put,List.setIfInBounds_toArray,List.set_cons_zero,List.set_cons_succ])
      refine wpTree_one ?_;refine stepT_mk rfl (fun K hK=>?_);go_simp;have hb5:Below Y4.heap.size Y4 (Y4.alloc (.cells #[.slice none 0 0,.slice none 0 0] 27)):=below_alloc _ _;have kk5:=Lib.hid (bkN Y4 #[.slice none 0 0,.slice none 0 0] 27);have zl5:Y4.heap.size+1≤(Y4.alloc (.cells #[.slice none 0 0,.slice none 0 0] 27)).heap.size:=by simp
      refine hK.out _ _ (HKB.out _ (BY4.out.trans (hb5.mono (by omega)))) ?_;clear hK K
      (try simp only[Act.put,List.setIfInBounds_toArray,List.set_cons_zero,List.set_cons_succ])
      generalize (Y4.alloc (.cells #[.slice none 0 0,.slice none 0 0] 27))=Y5 at *;have bs5:Y4.heap.size≤Y5.heap.size:=hb5.size;have BY5:=Lib.hid (BY4.out.trans (hb5.mono (by omega)));have O3_5:=Lib.hid (O3_4.out.below I3 (by omega) hb5);have RW_5:=Lib.hid (ownsRow_frame RW_4.out (fun g hg=>hb5.block g (ownsRow_block RW_4.out hg).2));clear hb5;refine wpTree_nil ?_;simp only[List.drop_succ_cons,List.drop_zero];obtain⟨fq,oq,iq,mq⟩:=rowOwnB (lo:=W0.heap.size) RW_5.out (by omega) (by omega);have hq:∀ y ∈ fq,Y1.heap.size≤y∧y≠Y4.heap.size:=fun y hy=>by
       rcases NB y (mq y hy) with ⟨b0,e,rfl⟩|⟨rfl,hl_⟩
       ·have:=RB _ e;omega
       ·omega
      have hh3:∀ y ∈ fp3,y≠Y4.heap.size∧y<Y1.heap.size:=fun y hy=>by have:=I3 y hy;omega
      have oq2:Own Y5 (DChange.sT (r.changes++[ch])) (.slice a5 (r.changes.length+1) c5) fq:=by
       rw[DChange.sT_vs,List.flatMap_append]
       simpa using oq
      have ov:OwnV Y5 (DRegister.tr ⟨PL,r.changes++[ch]⟩) [.slice a3 PL.length c3,.slice a5 (r.changes.length+1) c5] (fp3++(fq++[])):=OwnV.cons O3_5.out (OwnV.cons oq2 OwnV.nil (fun x _ hx=>by simp at hx)) (fun y hy h=>by have:=(hh3 y hy).2;have:=(hq y (by simpa using h)).1;omega);have hnin:Y4.heap.size ∉ fp3++(fq++[]):=fun e=>by
       simp only[List.append_nil,List.mem_append] at e
       rcases e with e|e
       ·exact (hh3 _ e).1 rfl
       ·exact (hq _ e).2 rfl
      have OF:=Lib.hid ((ov.setFar (p:=⟨Y4.heap.size,0,none⟩) hnin (.slice a3 PL.length c3)).setFar (p:=⟨Y4.heap.size,1,none⟩) hnin (.slice a5 (r.changes.length+1) c5));have IF_:Hid (In W0.heap.size ((Y5.setCell ⟨Y4.heap.size,0,none⟩ (.slice a3 PL.length c3)).setCell ⟨Y4.heap.size,1,none⟩ (.slice a5 (r.changes.length+1) c5)).heap.size (fp3++(fq++[]))):=fun y hy=>by
       simp only[List.append_nil,List.mem_append] at hy;simp only[size_setCell]
       rcases hy with h|h
       ·have:=I3 y h;omega
       ·exact iq y h
      have BF:=Lib.hid (((BY5.out).setCell (p:=⟨Y4.heap.size,0,none⟩) (by show W0.heap.size≤Y4.heap.size;omega) (.slice a3 PL.length c3)).setCell (p:=⟨Y4.heap.size,1,none⟩) (by show W0.heap.size≤Y4.heap.size;omega) (.slice a5 (r.changes.length+1) c5));have kf_:(((Y5.setCell ⟨Y4.heap.size,0,none⟩ (.slice a3 PL.length c3)).setCell ⟨Y4.heap.size,1,none⟩ (.slice a5 (r.changes.length+1) c5)).heap[Y4.heap.size]? = some (.cells #[.slice a3 PL.length c3,.slice a5 (r.changes.length+1) c5] 27 (0,0))):=by
       have h_:=bkS (bkS kk5.out 0 (.slice a3 PL.length c3)) 1 (.slice a5 (r.changes.length+1) c5)
       simpa using h_
      have KF:=Lib.hid kf_;clear kf_;have g0_:=bkC (v:=.slice none 0 0) kk5.out 0 rfl;have g1_:=bkC (v:=.slice none 0 0) kk5.out 1 rfl;have fz:=bkF kk5.out;clear oq iq mq hq hh3 oq2 ov hnin RB NB I3;go_wp2_with fail;go_meet;exact⟨_,a3,c3,a5,c5,_,rfl,KF.out,by omega,by simp only[size_setCell];omega,BF.out,OF.out,IF_.out⟩
     ·refine stepT_mk rfl (fun K hK=>?_)
      go_simp;have hb6:Below Y3.heap.size Y3 (Y3.alloc (.cells #[.slice none 0 0,.slice none 0 0] 27)):=below_alloc _ _;have kk6:=Lib.hid (bkN Y3 #[.slice none 0 0,.slice none 0 0] 27);have zl6:Y3.heap.size+1≤(Y3.alloc (.cells #[.slice none 0 0,.slice none 0 0] 27)).heap.size:=by simp
      refine hK.out _ _ (HKB.out _ (BY3.out.trans (hb6.mono (by omega)))) ?_;clear hK K
      (try simp only[Act.put,List.setIfInBounds_toArray,List.set_cons_zero,List.set_cons_succ])
      generalize (Y3.alloc (.cells #[.slice none 0 0,.slice none 0 0] 27))=Y6 at *;have bs6:Y3.heap.size≤Y6.heap.size:=hb6.size;have BY6:=Lib.hid (BY3.out.trans (hb6.mono (by omega)));have kb6:=Lib.hid (bkB kk3.out hb6 (by omega));have O3_6:=Lib.hid (O3_3.out.below I3 (by omega) hb6);have RW_6:=Lib.hid (ownsRow_frame RW_3.out (fun g hg=>hb6.block g (by have:=(RB g hg).2;omega)));clear hb6;refine wpTree_one ?_;refine stepT_mk rfl (fun K hK=>?_);have hrd:Reads Y6 Y6.heap.size 4 (some ⟨Y2.heap.size,0,none⟩) 1 ch.vs:=⟨rfl,fun _=>⟨⟨Y2.heap.size,0,none⟩,rfl,by show Y2.heap.size<_;omega,fun j u hu=>by rw[add_mk,Nat.zero_add];exact (cell_of_row' kb6.out j).trans (by simpa [DChange.vs] using hu)⟩⟩
      refine wp_append_any _ (.tmp 13) (.tmp 15) _ rfl Y1.heap.size 44 iC _ 4 56 Tryz.underlying25 hC0 hC1 hC2 hC3 rfl (by omega) (.slice a4 r.changes.length c4) r.changes.length _ rfl RW_6.out Y6.heap.size _ 1 1 ch.vs rfl hrd (fun u hu=>DChange.vs_one [ch] u (by simpa using hu)) (by simp only[maxLen];omega) (by omega) (by omega) ?_;intro v5 Y7 hown hg hat;obtain⟨a5,c5,rfl,_⟩:=ownsRow_slice hown;have hb7:Below W0.heap.size Y6 Y7:=(Below.refl _ _).grown hg (by omega) (fun k hk=>by have:=RB k hk;omega);have bs7:Y6.heap.size≤Y7.heap.size:=hg.size;have kp7:∀ b,b<Y6.heap.size→(Value.slice a4 r.changes.length c4).ownBlock≠some b→Y7.heap[b]? = Y6.heap[b]?:=fun b hb hne=>hg.block b hb (fun e=>hne e.symm)
      have NB:∀ b,(Value.slice a5 (r.changes.length+1) c5).ownBlock=some b→(∃ b0,(Value.slice a4 r.changes.length c4).ownBlock=some b0∧b=b0)∨(b=Y6.heap.size∧b<Y7.heap.size):=fun b hb=>by
       have hlt_:=(ownsRow_block hown hb).2
       rcases hat with e|e
       ·rw[e] at hb;exact Or.inl ⟨b,hb,rfl⟩
       ·rw[e] at hb;injection hb with hb;exact Or.inr ⟨hb.symm,hlt_⟩
      refine hK.out _ _ (HKB.out _ (BY6.out.trans hb7)) ?_;clear hK K hat hg hrd
      (try simp only[Act.put,List.setIfInBounds_toArray,List.set_cons_zero,List.set_cons_succ])
      have RW_7:=Lib.hid hown;clear hown;have kh7:=Lib.hid ((kp7 (Y3.heap.size) (by omega) (fun e=>by have:=RB _ e;omega)).trans kk6.out);have O3_7:=Lib.hid (O3_6.out.frame (fun b hb=>kp7 b (by have:=(I3 b hb).2;omega) (fun e=>by have:=(I3 b hb).2;have:=RB _ e;omega)));have BY7:=Lib.hid (BY6.out.trans hb7);clear hb7 kp7;refine wpTree_read (v:=?_) rfl (fun _ _ _ h=>h) ?_ ?_
      rotate_left
      ·(intro W hSW;(try dsimp only at hSW);(go_simp<;>with_reducible rfl))
      (try simp only[Act.put,List.setIfInBounds_toArray,List.set_cons_zero,List.set_cons_succ])
      refine wpTree_nil ?_;simp only[List.drop_succ_cons,List.drop_zero];obtain⟨fq,oq,iq,mq⟩:=rowOwnB (lo:=W0.heap.size) RW_7.out (by omega) (by omega);have hq:∀ y ∈ fq,Y1.heap.size≤y∧y≠Y3.heap.size:=fun y hy=>by
       rcases NB y (mq y hy) with ⟨b0,e,rfl⟩|⟨rfl,hl_⟩
       ·have:=RB _ e;omega
       ·omega
      have hh3:∀ y ∈ fp3,y≠Y3.heap.size∧y<Y1.heap.size:=fun y hy=>by have:=I3 y hy;omega
      have oq2:Own Y7 (DChange.sT (r.changes++[ch])) (.slice a5 (r.changes.length+1) c5) fq:=by
       rw[DChange.sT_vs,List.flatMap_append]
       simpa using oq
      have ov:OwnV Y7 (DRegister.tr ⟨PL,r.changes++[ch]⟩) [.slice a3 PL.length c3,.slice a5 (r.changes.length+1) c5] (fp3++(fq++[])):=OwnV.cons O3_7.out (OwnV.cons oq2 OwnV.nil (fun x _ hx=>by simp at hx)) (fun y hy h=>by have:=(hh3 y hy).2;have:=(hq y (by simpa using h)).1;omega);have hnin:Y3.heap.size ∉ fp3++(fq++[]):=fun e=>by
       simp only[List.append_nil,List.mem_append] at e
       rcases e with e|e
       ·exact (hh3 _ e).1 rfl
       ·exact (hq _ e).2 rfl
      have OF:=Lib.hid ((ov.setFar (p:=⟨Y3.heap.size,0,none⟩) hnin (.slice a3 PL.length c3)).setFar (p:=⟨Y3.heap.size,1,none⟩) hnin (.slice a5 (r.changes.length+1) c5));have IF_:Hid (In W0.heap.size ((Y7.setCell ⟨Y3.heap.size,0,none⟩ (.slice a3 PL.length c3)).setCell ⟨Y3.heap.size,1,none⟩ (.slice a5 (r.changes.length+1) c5)).heap.size (fp3++(fq++[]))):=fun y hy=>by
       simp only[List.append_nil,List.mem_append] at hy;simp only[size_setCell]
       rcases hy with h|h
       ·have:=I3 y h;omega
       ·exact iq y h
      have BF:=Lib.hid (((BY7.out).setCell (p:=⟨Y3.heap.size,0,none⟩) (by show W0.heap.size≤Y3.heap.size;omega) (.slice a3 PL.length c3)).setCell (p:=⟨Y3.heap.size,1,none⟩) (by show W0.heap.size≤Y3.heap.size;omega) (.slice a5 (r.changes.length+1) c5));have kf_:(((Y7.setCell ⟨Y3.heap.size,0,none⟩ (.slice a3 PL.length c3)).setCell ⟨Y3.heap.size,1,none⟩ (.slice a5 (r.changes.length+1) c5)).heap[Y3.heap.size]? = some (.cells #[.slice a3 PL.length c3,.slice a5 (r.changes.length+1) c5] 27 (0,0))):=by
       have h_:=bkS (bkS kh7.out 0 (.slice a3 PL.length c3)) 1 (.slice a5 (r.changes.length+1) c5)
       simpa using h_
      have KF:=Lib.hid kf_;clear kf_;have g0_:=bkC (v:=.slice none 0 0) kh7.out 0 rfl;have g1_:=bkC (v:=.slice none 0 0) kh7.out 1 rfl;have fz:=bkF kh7.out;clear oq iq mq hq hh3 oq2 ov hnin RB NB I3;go_wp2_with fail;go_meet;exact⟨_,a3,c3,a5,c5,_,rfl,KF.out,by omega,by simp only[size_setCell];omega,BF.out,OF.out,IF_.out⟩
    ·refine stepT_mk rfl (fun K hK=>?_)
     go_simp;have hb8:Below Y2.heap.size Y2 (Y2.alloc (.cells #[.slice none 0 0,.slice none 0 0] 27)):=below_alloc _ _;have kk8:=Lib.hid (bkN Y2 #[.slice none 0 0,.slice none 0 0] 27);have zl8:Y2.heap.size+1≤(Y2.alloc (.cells #[.slice none 0 0,.slice none 0 0] 27)).heap.size:=by simp
     refine hK.out _ _ (HKB.out _ (BY2.out.trans (hb8.mono (by omega)))) ?_;clear hK K
     (try simp only[Act.put,List.setIfInBounds_toArray,List.set_cons_zero,List.set_cons_succ])
     generalize (Y2.alloc (.cells #[.slice none 0 0,.slice none 0 0] 27))=Y8 at *;have bs8:Y2.heap.size≤Y8.heap.size:=hb8.size;have BY8:=Lib.hid (BY2.out.trans (hb8.mono (by omega)));have O3_8:=Lib.hid (O3_2.out.below I3 (by omega) hb8);have RW_8:=Lib.hid (ownsRow_frame RW_2.out (fun g hg=>hb8.block g (by have:=(RB g hg).2;omega)));clear hb8;refine wpTree_one ?_;refine stepT_mk rfl (fun K hK=>?_);go_simp;have hb9:Below Y8.heap.size Y8 (Y8.alloc (.cells #[.int .i64 ch.day,.string ch.key,.string ch.old_,.string ch.new_] 44)):=below_alloc _ _;have kk9:=Lib.hid (bkN Y8 #[.int .i64 ch.day,.string ch.key,.string ch.old_,.string ch.new_] 44);have zl9:Y8.heap.size+1≤(Y8.alloc (.cells #[.int .i64 ch.day,.string ch.key,.string ch.old_,.string ch.new_] 44)).heap.size:=by simp
     refine hK.out _ _ (HKB.out _ (BY8.out.trans (hb9.mono (by omega)))) ?_;clear hK K
     (try simp only[Act.put,List.setIfInBounds_toArray,List.set_cons_zero,List.set_cons_succ])
     generalize (Y8.alloc (.cells #[.int .i64 ch.day,.string ch.key,.string ch.old_,.string ch.new_] 44))=Y9 at *;have bs9:Y8.heap.size≤Y9.heap.size:=hb9.size;have BY9:=Lib.hid (BY8.out.trans (hb9.mono (by omega)));have kh9:=Lib.hid (bkB kk8.out hb9 (by omega));have O3_9:=Lib.hid (O3_8.out.below I3 (by omega) hb9);have RW_9:=Lib.hid (ownsRow_frame RW_8.out (fun g hg=>hb9.block g (by have:=(RB g hg).2;omega)));clear hb9;refine wpTree_one ?_;refine stepT_mk rfl (fun K hK=>?_);have hrd:Reads Y9 Y9.heap.size 4 (some ⟨Y8.heap.size,0,none⟩) 1 ch.vs:=⟨rfl,fun _=>⟨⟨Y8.heap.size,0,none⟩,rfl,by show Y8.heap.size<_;omega,fun j u hu=>by rw[add_mk,Nat.zero_add];exact (cell_of_row' kk9.out j).trans (by simpa [DChange.vs] using hu)⟩⟩
     refine wp_append_any _ (.tmp 13) (.tmp 15) _ rfl Y1.heap.size 44 iC _ 4 56 Tryz.underlying25 hC0 hC1 hC2 hC3 rfl (by omega) (.slice a4 r.changes.length c4) r.changes.length _ rfl RW_9.out Y9.heap.size _ 1 1 ch.vs rfl hrd (fun u hu=>DChange.vs_one [ch] u (by simpa using hu)) (by simp only[maxLen];omega) (by omega) (by omega) ?_;intro v5 Y10 hown hg hat;obtain⟨a5,c5,rfl,_⟩:=ownsRow_slice hown;have hb10:Below W0.heap.size Y9 Y10:=(Below.refl _ _).grown hg (by omega) (fun k hk=>by have:=RB k hk;omega);have bs10:Y9.heap.size≤Y10.heap.size:=hg.size;have kp10:∀ b,b<Y9.heap.size→(Value.slice a4 r.changes.length c4).ownBlock≠some b→Y10.heap[b]? = Y9.heap[b]?:=fun b hb hne=>hg.block b hb (fun e=>hne e.symm)
     have NB:∀ b,(Value.slice a5 (r.changes.length+1) c5).ownBlock=some b→(∃ b0,(Value.slice a4 r.changes.length c4).ownBlock=some b0∧b=b0)∨(b=Y9.heap.size∧b<Y10.heap.size):=fun b hb=>by
      have hlt_:=(ownsRow_block hown hb).2
      rcases hat with e|e
      ·rw[e] at hb;exact Or.inl ⟨b,hb,rfl⟩
      ·rw[e] at hb;injection hb with hb;exact Or.inr ⟨hb.symm,hlt_⟩
     refine hK.out _ _ (HKB.out _ (BY9.out.trans hb10)) ?_;clear hK K hat hg hrd
     (try simp only[Act.put,List.setIfInBounds_toArray,List.set_cons_zero,List.set_cons_succ])
     have RW_10:=Lib.hid hown;clear hown;have kh10:=Lib.hid ((kp10 (Y2.heap.size) (by omega) (fun e=>by have:=RB _ e;omega)).trans kh9.out);have O3_10:=Lib.hid (O3_9.out.frame (fun b hb=>kp10 b (by have:=(I3 b hb).2;omega) (fun e=>by have:=(I3 b hb).2;have:=RB _ e;omega)));have BY10:=Lib.hid (BY9.out.trans hb10);clear hb10 kp10;refine wpTree_read (v:=?_) rfl (fun _ _ _ h=>h) ?_ ?_
     rotate_left
     ·(intro W hSW;(try dsimp only at hSW);(go_simp<;>with_reducible rfl))
     (try simp only[Act.put,List.setIfInBounds_toArray,List.set_cons_zero,List.set_cons_succ])
     refine wpTree_nil ?_;simp only[List.drop_succ_cons,List.drop_zero];obtain⟨fq,oq,iq,mq⟩:=rowOwnB (lo:=W0.heap.size) RW_10.out (by omega) (by omega);have hq:∀ y ∈ fq,Y1.heap.size≤y∧y≠Y2.heap.size:=fun y hy=>by
      rcases NB y (mq y hy) with ⟨b0,e,rfl⟩|⟨rfl,hl_⟩
      ·have:=RB _ e;omega
      ·omega
     have hh3:∀ y ∈ fp3,y≠Y2.heap.size∧y<Y1.heap.size:=fun y hy=>by have:=I3 y hy;omega
     have oq2:Own Y10 (DChange.sT (r.changes++[ch])) (.slice a5 (r.changes.length+1) c5) fq:=by
      rw[DChange.sT_vs,List.flatMap_append]
      simpa using oq
     have ov:OwnV Y10 (DRegister.tr ⟨PL,r.changes++[ch]⟩) [.slice a3 PL.length c3,.slice a5 (r.changes.length+1) c5] (fp3++(fq++[])):=OwnV.cons O3_10.out (OwnV.cons oq2 OwnV.nil (fun x _ hx=>by simp at hx)) (fun y hy h=>by have:=(hh3 y hy).2;have:=(hq y (by simpa using h)).1;omega);have hnin:Y2.heap.size ∉ fp3++(fq++[]):=fun e=>by
      simp only[List.append_nil,List.mem_append] at e
      rcases e with e|e
      ·exact (hh3 _ e).1 rfl
      ·exact (hq _ e).2 rfl
     have OF:=Lib.hid ((ov.setFar (p:=⟨Y2.heap.size,0,none⟩) hnin (.slice a3 PL.length c3)).setFar (p:=⟨Y2.heap.size,1,none⟩) hnin (.slice a5 (r.changes.length+1) c5));have IF_:Hid (In W0.heap.size ((Y10.setCell ⟨Y2.heap.size,0,none⟩ (.slice a3 PL.length c3)).setCell ⟨Y2.heap.size,1,none⟩ (.slice a5 (r.changes.length+1) c5)).heap.size (fp3++(fq++[]))):=fun y hy=>by
      simp only[List.append_nil,List.mem_append] at hy;simp only[size_setCell]
      rcases hy with h|h
      ·have:=I3 y h;omega
      ·exact iq y h
     have BF:=Lib.hid (((BY10.out).setCell (p:=⟨Y2.heap.size,0,none⟩) (by show W0.heap.size≤Y2.heap.size;omega) (.slice a3 PL.length c3)).setCell (p:=⟨Y2.heap.size,1,none⟩) (by show W0.heap.size≤Y2.heap.size;omega) (.slice a5 (r.changes.length+1) c5));have kf_:(((Y10.setCell ⟨Y2.heap.size,0,none⟩ (.slice a3 PL.length c3)).setCell ⟨Y2.heap.size,1,none⟩ (.slice a5 (r.changes.length+1) c5)).heap[Y2.heap.size]? = some (.cells #[.slice a3 PL.length c3,.slice a5 (r.changes.length+1) c5] 27 (0,0))):=by
      have h_:=bkS (bkS kh10.out 0 (.slice a3 PL.length c3)) 1 (.slice a5 (r.changes.length+1) c5)
      simpa using h_
     have KF:=Lib.hid kf_;clear kf_;have g0_:=bkC (v:=.slice none 0 0) kh10.out 0 rfl;have g1_:=bkC (v:=.slice none 0 0) kh10.out 1 rfl;have fz:=bkF kh10.out;clear oq iq mq hq hh3 oq2 ov hnin RB NB I3;go_wp2_with fail;go_meet;exact⟨_,a3,c3,a5,c5,_,rfl,KF.out,by omega,by simp only[size_setCell];omega,BF.out,OF.out,IF_.out⟩
   ·refine stepT_mk rfl (fun K hK=>?_)
    go_simp;have hb11:Below Y1.heap.size Y1 (Y1.alloc (.cells #[.int .i64 ch.day,.string ch.key,.string ch.old_,.string ch.new_] 44)):=below_alloc _ _;have kk11:=Lib.hid (bkN Y1 #[.int .i64 ch.day,.string ch.key,.string ch.old_,.string ch.new_] 44);have zl11:Y1.heap.size+1≤(Y1.alloc (.cells #[.int .i64 ch.day,.string ch.key,.string ch.old_,.string ch.new_] 44)).heap.size:=by simp
    refine hK.out _ _ (HKB.out _ (BY1.out.trans (hb11.mono (by omega)))) ?_;clear hK K
    (try simp only[Act.put,List.setIfInBounds_toArray,List.set_cons_zero,List.set_cons_succ])
    generalize (Y1.alloc (.cells #[.int .i64 ch.day,.string ch.key,.string ch.old_,.string ch.new_] 44))=Y11 at *;have bs11:Y1.heap.size≤Y11.heap.size:=hb11.size;have BY11:=Lib.hid (BY1.out.trans (hb11.mono (by omega)));have O3_11:=Lib.hid (O3_1.out.below I3 (by omega) hb11);clear hb11;refine wpTree_two ?_ ?_
    ·refine stepT_mk rfl (fun K hK=>?_)
     go_simp;refine (cloneChange_raw r.changes _ W0.heap.size Y11 ((HR1.out.mono (by omega)).below BY11.out) (by omega) (by omega)).mono ?_;rintro e Y12 ⟨a4,c4,xs,rfl,hb12,how,hx⟩;rw[flat_lits DChange.tr DChange.vs DChange.tr_vs] at hx;obtain rfl:=RdV_vals _ _ hx;clear hx;refine hK.out _ _ (HKB.out _ (BY11.out.trans (hb12.mono (by omega)))) ?_;clear hK K
     (try simp only[Act.put,List.setIfInBounds_toArray,List.set_cons_zero,List.set_cons_succ])
     have RW_12:=Lib.hid how;have RB:∀ b,(Value.slice a4 r.changes.length c4).ownBlock=some b→Y11.heap.size≤b∧b<Y12.heap.size:=fun b hb=>ownsRow_block how hb
     clear how;have bs12:Y11.heap.size≤Y12.heap.size:=hb12.size;have BY12:=Lib.hid (BY11.out.trans (hb12.mono (by omega)));have kb12:=Lib.hid (bkB kk11.out hb12 (by omega));have O3_12:=Lib.hid (O3_11.out.below I3 (by omega) hb12);clear hb12;refine wpTree_two ?_ ?_
     ·refine stepT_mk rfl (fun K hK=>?_)
      have hrd:Reads Y12 Y12.heap.size 4 (some ⟨Y1.heap.size,0,none⟩) 1 ch.vs:=⟨rfl,fun _=>⟨⟨Y1.heap.size,0,none⟩,rfl,by show Y1.heap.size<_;omega,fun j u hu=>by rw[add_mk,Nat.zero_add];exact (cell_of_row' kb12.out j).trans (by simpa [DChange.vs] using hu)⟩⟩
      refine wp_append_any _ (.tmp 13) (.tmp 15) _ rfl Y11.heap.size 44 iC _ 4 56 Tryz.underlying25 hC0 hC1 hC2 hC3 rfl (by omega) (.slice a4 r.changes.length c4) r.changes.length _ rfl RW_12.out Y12.heap.size _ 1 1 ch.vs rfl hrd (fun u hu=>DChange.vs_one [ch] u (by simpa using hu)) (by simp only[maxLen];omega) (by omega) (by omega) ?_;intro v5 Y13 hown hg hat;obtain⟨a5,c5,rfl,_⟩:=ownsRow_slice hown;have hb13:Below W0.heap.size Y12 Y13:=(Below.refl _ _).grown hg (by omega) (fun k hk=>by have:=RB k hk;omega);have bs13:Y12.heap.size≤Y13.heap.size:=hg.size;have kp13:∀ b,b<Y12.heap.size→(Value.slice a4 r.changes.length c4).ownBlock≠some b→Y13.heap[b]? = Y12.heap[b]?:=fun b hb hne=>hg.block b hb (fun e=>hne e.symm)
      have NB:∀ b,(Value.slice a5 (r.changes.length+1) c5).ownBlock=some b→(∃ b0,(Value.slice a4 r.changes.length c4).ownBlock=some b0∧b=b0)∨(b=Y12.heap.size∧b<Y13.heap.size):=fun b hb=>by
       have hlt_:=(ownsRow_block hown hb).2
       rcases hat with e|e
       ·rw[e] at hb;exact Or.inl ⟨b,hb,rfl⟩
       ·rw[e] at hb;injection hb with hb;exact Or.inr ⟨hb.symm,hlt_⟩
      refine hK.out _ _ (HKB.out _ (BY12.out.trans hb13)) ?_;clear hK K hat hg hrd
      (try simp only[Act.put,List.setIfInBounds_toArray,List.set_cons_zero,List.set_cons_succ])
      have RW_13:=Lib.hid hown;clear hown;have O3_13:=Lib.hid (O3_12.out.frame (fun b hb=>kp13 b (by have:=(I3 b hb).2;omega) (fun e=>by have:=(I3 b hb).2;have:=RB _ e;omega)));have BY13:=Lib.hid (BY12.out.trans hb13);clear hb13 kp13;refine wpTree_read (v:=?_) rfl (fun _ _ _ h=>h) ?_ ?_
      rotate_left
      ·(intro W hSW;(try dsimp only at hSW);(go_simp<;>with_reducible rfl))
      (try simp only[Act.put,List.setIfInBounds_toArray,List.set_cons_zero,List.set_cons_succ])
      refine wpTree_one ?_;refine stepT_mk rfl (fun K hK=>?_);go_simp;have hb14:Below Y13.heap.size Y13 (Y13.alloc (.cells #[.slice none 0 0,.slice none 0 0] 27)):=below_alloc _ _;have kk14:=Lib.hid (bkN Y13 #[.slice none 0 0,.slice none 0 0] 27);have zl14:Y13.heap.size+1≤(Y13.alloc (.cells #[.slice none 0 0,.slice none 0 0] 27)).heap.size:=by simp
      refine hK.out _ _ (HKB.out _ (BY13.out.trans (hb14.mono (by omega)))) ?_;clear hK K
      (try simp only[Act.put,List.setIfInBounds_toArray,List.set_cons_zero,List.set_cons_succ])
      generalize (Y13.alloc (.cells #[.slice none 0 0,.slice none 0 0] 27))=Y14 at *;have bs14:Y13.heap.size≤Y14.heap.size:=hb14.size;have BY14:=Lib.hid (BY13.out.trans (hb14.mono (by omega)));have O3_14:=Lib.hid (O3_13.out.below I3 (by omega) hb14);have RW_14:=Lib.hid (ownsRow_frame RW_13.out (fun g hg=>hb14.block g (ownsRow_block RW_13.out hg).2));clear hb14;refine wpTree_nil ?_;simp only[List.drop_succ_cons,List.drop_zero];obtain⟨fq,oq,iq,mq⟩:=rowOwnB (lo:=W0.heap.size) RW_14.out (by omega) (by omega);have hq:∀ y ∈ fq,Y11.heap.size≤y∧y≠Y13.heap.size:=fun y hy=>by
       rcases NB y (mq y hy) with ⟨b0,e,rfl⟩|⟨rfl,hl_⟩
       ·have:=RB _ e;omega
       ·omega
      have hh3:∀ y ∈ fp3,y≠Y13.heap.size∧y<Y11.heap.size:=fun y hy=>by have:=I3 y hy;omega
      have oq2:Own Y14 (DChange.sT (r.changes++[ch])) (.slice a5 (r.changes.length+1) c5) fq:=by
       rw[DChange.sT_vs,List.flatMap_append]
       simpa using oq
      have ov:OwnV Y14 (DRegister.tr ⟨PL,r.changes++[ch]⟩) [.slice a3 PL.length c3,.slice a5 (r.changes.length+1) c5] (fp3++(fq++[])):=OwnV.cons O3_14.out (OwnV.cons oq2 OwnV.nil (fun x _ hx=>by simp at hx)) (fun y hy h=>by have:=(hh3 y hy).2;have:=(hq y (by simpa using h)).1;omega);have hnin:Y13.heap.size ∉ fp3++(fq++[]):=fun e=>by
       simp only[List.append_nil,List.mem_append] at e
       rcases e with e|e
       ·exact (hh3 _ e).1 rfl
       ·exact (hq _ e).2 rfl
      have OF:=Lib.hid ((ov.setFar (p:=⟨Y13.heap.size,0,none⟩) hnin (.slice a3 PL.length c3)).setFar (p:=⟨Y13.heap.size,1,none⟩) hnin (.slice a5 (r.changes.length+1) c5));have IF_:Hid (In W0.heap.size ((Y14.setCell ⟨Y13.heap.size,0,none⟩ (.slice a3 PL.length c3)).setCell ⟨Y13.heap.size,1,none⟩ (.slice a5 (r.changes.length+1) c5)).heap.size (fp3++(fq++[]))):=fun y hy=>by
       simp only[List.append_nil,List.mem_append] at hy;simp only[size_setCell]
       rcases hy with h|h
       ·have:=I3 y h;omega
       ·exact iq y h
      have BF:=Lib.hid (((BY14.out).setCell (p:=⟨Y13.heap.size,0,none⟩) (by show W0.heap.size≤Y13.heap.size;omega) (.slice a3 PL.length c3)).setCell (p:=⟨Y13.heap.size,1,none⟩) (by show W0.heap.size≤Y13.heap.size;omega) (.slice a5 (r.changes.length+1) c5));have kf_:(((Y14.setCell ⟨Y13.heap.size,0,none⟩ (.slice a3 PL.length c3)).setCell ⟨Y13.heap.size,1,none⟩ (.slice a5 (r.changes.length+1) c5)).heap[Y13.heap.size]? = some (.cells #[.slice a3 PL.length c3,.slice a5 (r.changes.length+1) c5] 27 (0,0))):=by
       have h_:=bkS (bkS kk14.out 0 (.slice a3 PL.length c3)) 1 (.slice a5 (r.changes.length+1) c5)
       simpa using h_
      have KF:=Lib.hid kf_;clear kf_;have g0_:=bkC (v:=.slice none 0 0) kk14.out 0 rfl;have g1_:=bkC (v:=.slice none 0 0) kk14.out 1 rfl;have fz:=bkF kk14.out;clear oq iq mq hq hh3 oq2 ov hnin RB NB I3;go_wp2_with fail;go_meet;exact⟨_,a3,c3,a5,c5,_,rfl,KF.out,by omega,by simp only[size_setCell];omega,BF.out,OF.out,IF_.out⟩
     ·refine stepT_mk rfl (fun K hK=>?_)
      go_simp;have hb15:Below Y12.heap.size Y12 (Y12.alloc (.cells #[.slice none 0 0,.slice none 0 0] 27)):=below_alloc _ _;have kk15:=Lib.hid (bkN Y12 #[.slice none 0 0,.slice none 0 0] 27);have zl15:Y12.heap.size+1≤(Y12.alloc (.cells #[.slice none 0 0,.slice none 0 0] 27)).heap.size:=by simp
      refine hK.out _ _ (HKB.out _ (BY12.out.trans (hb15.mono (by omega)))) ?_;clear hK K
      (try simp only[Act.put,List.setIfInBounds_toArray,List.set_cons_zero,List.set_cons_succ])
      generalize (Y12.alloc (.cells #[.slice none 0 0,.slice none 0 0] 27))=Y15 at *;have bs15:Y12.heap.size≤Y15.heap.size:=hb15.size;have BY15:=Lib.hid (BY12.out.trans (hb15.mono (by omega)));have kb15:=Lib.hid (bkB kb12.out hb15 (by omega));have O3_15:=Lib.hid (O3_12.out.below I3 (by omega) hb15);have RW_15:=Lib.hid (ownsRow_frame RW_12.out (fun g hg=>hb15.block g (by have:=(RB g hg).2;omega)));clear hb15;refine wpTree_one ?_;refine stepT_mk rfl (fun K hK=>?_);have hrd:Reads Y15 Y15.heap.size 4 (some ⟨Y1.heap.size,0,none⟩) 1 ch.vs:=⟨rfl,fun _=>⟨⟨Y1.heap.size,0,none⟩,rfl,by show Y1.heap.size<_;omega,fun j u hu=>by rw[add_mk,Nat.zero_add];exact (cell_of_row' kb15.out j).trans (by simpa [DChange.vs] using hu)⟩⟩
      refine wp_append_any _ (.tmp 13) (.tmp 15) _ rfl Y11.heap.size 44 iC _ 4 56 Tryz.underlying25 hC0 hC1 hC2 hC3 rfl (by omega) (.slice a4 r.changes.length c4) r.changes.length _ rfl RW_15.out Y15.heap.size _ 1 1 ch.vs rfl hrd (fun u hu=>DChange.vs_one [ch] u (by simpa using hu)) (by simp only[maxLen];omega) (by omega) (by omega) ?_;intro v5 Y16 hown hg hat;obtain⟨a5,c5,rfl,_⟩:=ownsRow_slice hown;have hb16:Below W0.heap.size Y15 Y16:=(Below.refl _ _).grown hg (by omega) (fun k hk=>by have:=RB k hk;omega);have bs16:Y15.heap.size≤Y16.heap.size:=hg.size;have kp16:∀ b,b<Y15.heap.size→(Value.slice a4 r.changes.length c4).ownBlock≠some b→Y16.heap[b]? = Y15.heap[b]?:=fun b hb hne=>hg.block b hb (fun e=>hne e.symm)
      have NB:∀ b,(Value.slice a5 (r.changes.length+1) c5).ownBlock=some b→(∃ b0,(Value.slice a4 r.changes.length c4).ownBlock=some b0∧b=b0)∨(b=Y15.heap.size∧b<Y16.heap.size):=fun b hb=>by
       have hlt_:=(ownsRow_block hown hb).2
       rcases hat with e|e
       ·rw[e] at hb;exact Or.inl ⟨b,hb,rfl⟩
       ·rw[e] at hb;injection hb with hb;exact Or.inr ⟨hb.symm,hlt_⟩
      refine hK.out _ _ (HKB.out _ (BY15.out.trans hb16)) ?_;clear hK K hat hg hrd
      (try simp only[Act.put,List.setIfInBounds_toArray,List.set_cons_zero,List.set_cons_succ])
      have RW_16:=Lib.hid hown;clear hown;have kh16:=Lib.hid ((kp16 (Y12.heap.size) (by omega) (fun e=>by have:=RB _ e;omega)).trans kk15.out);have O3_16:=Lib.hid (O3_15.out.frame (fun b hb=>kp16 b (by have:=(I3 b hb).2;omega) (fun e=>by have:=(I3 b hb).2;have:=RB _ e;omega)));have BY16:=Lib.hid (BY15.out.trans hb16);clear hb16 kp16;refine wpTree_read (v:=?_) rfl (fun _ _ _ h=>h) ?_ ?_
      rotate_left
      ·(intro W hSW;(try dsimp only at hSW);(go_simp<;>with_reducible rfl))
      (try simp only[Act.put,List.setIfInBounds_toArray,List.set_cons_zero,List.set_cons_succ])
      refine wpTree_nil ?_;simp only[List.drop_succ_cons,List.drop_zero];obtain⟨fq,oq,iq,mq⟩:=rowOwnB (lo:=W0.heap.size) RW_16.out (by omega) (by omega);have hq:∀ y ∈ fq,Y11.heap.size≤y∧y≠Y12.heap.size:=fun y hy=>by
       rcases NB y (mq y hy) with ⟨b0,e,rfl⟩|⟨rfl,hl_⟩
       ·have:=RB _ e;omega
       ·omega
      have hh3:∀ y ∈ fp3,y≠Y12.heap.size∧y<Y11.heap.size:=fun y hy=>by have:=I3 y hy;omega
      have oq2:Own Y16 (DChange.sT (r.changes++[ch])) (.slice a5 (r.changes.length+1) c5) fq:=by
       rw[DChange.sT_vs,List.flatMap_append]
       simpa using oq
      have ov:OwnV Y16 (DRegister.tr ⟨PL,r.changes++[ch]⟩) [.slice a3 PL.length c3,.slice a5 (r.changes.length+1) c5] (fp3++(fq++[])):=OwnV.cons O3_16.out (OwnV.cons oq2 OwnV.nil (fun x _ hx=>by simp at hx)) (fun y hy h=>by have:=(hh3 y hy).2;have:=(hq y (by simpa using h)).1;omega);have hnin:Y12.heap.size ∉ fp3++(fq++[]):=fun e=>by
       simp only[List.append_nil,List.mem_append] at e
       rcases e with e|e
       ·exact (hh3 _ e).1 rfl
       ·exact (hq _ e).2 rfl
      have OF:=Lib.hid ((ov.setFar (p:=⟨Y12.heap.size,0,none⟩) hnin (.slice a3 PL.length c3)).setFar (p:=⟨Y12.heap.size,1,none⟩) hnin (.slice a5 (r.changes.length+1) c5));have IF_:Hid (In W0.heap.size ((Y16.setCell ⟨Y12.heap.size,0,none⟩ (.slice a3 PL.length c3)).setCell ⟨Y12.heap.size,1,none⟩ (.slice a5 (r.changes.length+1) c5)).heap.size (fp3++(fq++[]))):=fun y hy=>by
       simp only[List.append_nil,List.mem_append] at hy;simp only[size_setCell]
       rcases hy with h|h
       ·have:=I3 y h;omega
       ·exact iq y h
      have BF:=Lib.hid (((BY16.out).setCell (p:=⟨Y12.heap.size,0,none⟩) (by show W0.heap.size≤Y12.heap.size;omega) (.slice a3 PL.length c3)).setCell (p:=⟨Y12.heap.size,1,none⟩) (by show W0.heap.size≤Y12.heap.size;omega) (.slice a5 (r.changes.length+1) c5));have kf_:(((Y16.setCell ⟨Y12.heap.size,0,none⟩ (.slice a3 PL.length c3)).setCell ⟨Y12.heap.size,1,none⟩ (.slice a5 (r.changes.length+1) c5)).heap[Y12.heap.size]? = some (.cells #[.slice a3 PL.length c3,.slice a5 (r.changes.length+1) c5] 27 (0,0))):=by
       have h_:=bkS (bkS kh16.out 0 (.slice a3 PL.length c3)) 1 (.slice a5 (r.changes.length+1) c5)
       simpa using h_
      have KF:=Lib.hid kf_;clear kf_;have g0_:=bkC (v:=.slice none 0 0) kh16.out 0 rfl;have g1_:=bkC (v:=.slice none 0 0) kh16.out 1 rfl;have fz:=bkF kh16.out;clear oq iq mq hq hh3 oq2 ov hnin RB NB I3;go_wp2_with fail;go_meet;exact⟨_,a3,c3,a5,c5,_,rfl,KF.out,by omega,by simp only[size_setCell];omega,BF.out,OF.out,IF_.out⟩
    ·refine stepT_mk rfl (fun K hK=>?_)
     go_simp;have hb17:Below Y11.heap.size Y11 (Y11.alloc (.cells #[.slice none 0 0,.slice none 0 0] 27)):=below_alloc _ _;have kk17:=Lib.hid (bkN Y11 #[.slice none 0 0,.slice none 0 0] 27);have zl17:Y11.heap.size+1≤(Y11.alloc (.cells #[.slice none 0 0,.slice none 0 0] 27)).heap.size:=by simp
     refine hK.out _ _ (HKB.out _ (BY11.out.trans (hb17.mono (by omega)))) ?_;clear hK K
     (try simp only[Act.put,List.setIfInBounds_toArray,List.set_cons_zero,List.set_cons_succ])
     generalize (Y11.alloc (.cells #[.slice none 0 0,.slice none 0 0] 27))=Y17 at *;have bs17:Y11.heap.size≤Y17.heap.size:=hb17.size;have BY17:=Lib.hid (BY11.out.trans (hb17.mono (by omega)));have kb17:=Lib.hid (bkB kk11.out hb17 (by omega));have O3_17:=Lib.hid (O3_11.out.below I3 (by omega) hb17);clear hb17;refine wpTree_one ?_;refine stepT_mk rfl (fun K hK=>?_);go_simp;refine (cloneChange_raw r.changes _ W0.heap.size Y17 ((HR1.out.mono (by omega)).below BY17.out) (by omega) (by omega)).mono ?_;rintro e Y18 ⟨a4,c4,xs,rfl,hb18,how,hx⟩;rw[flat_lits DChange.tr DChange.vs DChange.tr_vs] at hx;obtain rfl:=RdV_vals _ _ hx;clear hx;refine hK.out _ _ (HKB.out _ (BY17.out.trans (hb18.mono (by omega)))) ?_;clear hK K
     (try simp only[Act.put,List.setIfInBounds_toArray,List.set_cons_zero,List.set_cons_succ])
     have RW_18:=Lib.hid how;have RB:∀ b,(Value.slice a4 r.changes.length c4).ownBlock=some b→Y17.heap.size≤b∧b<Y18.heap.size:=fun b hb=>ownsRow_block how hb
     clear how;have bs18:Y17.heap.size≤Y18.heap.size:=hb18.size;have BY18:=Lib.hid (BY17.out.trans (hb18.mono (by omega)));have kh18:=Lib.hid (bkB kk17.out hb18 (by omega));have kb18:=Lib.hid (bkB kb17.out hb18 (by omega));have O3_18:=Lib.hid (O3_17.out.below I3 (by omega) hb18);clear hb18;refine wpTree_one ?_;refine stepT_mk rfl (fun K hK=>?_);have hrd:Reads Y18 Y18.heap.size 4 (some ⟨Y1.heap.size,0,none⟩) 1 ch.vs:=⟨rfl,fun _=>⟨⟨Y1.heap.size,0,none⟩,rfl,by show Y1.heap.size<_;omega,fun j u hu=>by rw[add_mk,Nat.zero_add];exact (cell_of_row' kb18.out j).trans (by simpa [DChange.vs] using hu)⟩⟩
     refine wp_append_any _ (.tmp 13) (.tmp 15) _ rfl Y17.heap.size 44 iC _ 4 56 Tryz.underlying25 hC0 hC1 hC2 hC3 rfl (by omega) (.slice a4 r.changes.length c4) r.changes.length _ rfl RW_18.out Y18.heap.size _ 1 1 ch.vs rfl hrd (fun u hu=>DChange.vs_one [ch] u (by simpa using hu)) (by simp only[maxLen];omega) (by omega) (by omega) ?_;intro v5 Y19 hown hg hat;obtain⟨a5,c5,rfl,_⟩:=ownsRow_slice hown;have hb19:Below W0.heap.size Y18 Y19:=(Below.refl _ _).grown hg (by omega) (fun k hk=>by have:=RB k hk;omega);have bs19:Y18.heap.size≤Y19.heap.size:=hg.size;have kp19:∀ b,b<Y18.heap.size→(Value.slice a4 r.changes.length c4).ownBlock≠some b→Y19.heap[b]? = Y18.heap[b]?:=fun b hb hne=>hg.block b hb (fun e=>hne e.symm)
     have NB:∀ b,(Value.slice a5 (r.changes.length+1) c5).ownBlock=some b→(∃ b0,(Value.slice a4 r.changes.length c4).ownBlock=some b0∧b=b0)∨(b=Y18.heap.size∧b<Y19.heap.size):=fun b hb=>by
      have hlt_:=(ownsRow_block hown hb).2
      rcases hat with e|e
      ·rw[e] at hb;exact Or.inl ⟨b,hb,rfl⟩
      ·rw[e] at hb;injection hb with hb;exact Or.inr ⟨hb.symm,hlt_⟩
     refine hK.out _ _ (HKB.out _ (BY18.out.trans hb19)) ?_;clear hK K hat hg hrd
     (try simp only[Act.put,List.setIfInBounds_toArray,List.set_cons_zero,List.set_cons_succ])
     have RW_19:=Lib.hid hown;clear hown;have kh19:=Lib.hid ((kp19 (Y11.heap.size) (by omega) (fun e=>by have:=RB _ e;omega)).trans kh18.out);have O3_19:=Lib.hid (O3_18.out.frame (fun b hb=>kp19 b (by have:=(I3 b hb).2;omega) (fun e=>by have:=(I3 b hb).2;have:=RB _ e;omega)));have BY19:=Lib.hid (BY18.out.trans hb19);clear hb19 kp19;refine wpTree_read (v:=?_) rfl (fun _ _ _ h=>h) ?_ ?_
     rotate_left
     ·(intro W hSW;(try dsimp only at hSW);(go_simp<;>with_reducible rfl))
     (try simp only[Act.put,List.setIfInBounds_toArray,List.set_cons_zero,List.set_cons_succ])
     refine wpTree_nil ?_;simp only[List.drop_succ_cons,List.drop_zero];obtain⟨fq,oq,iq,mq⟩:=rowOwnB (lo:=W0.heap.size) RW_19.out (by omega) (by omega);have hq:∀ y ∈ fq,Y17.heap.size≤y∧y≠Y11.heap.size:=fun y hy=>by
      rcases NB y (mq y hy) with ⟨b0,e,rfl⟩|⟨rfl,hl_⟩
      ·have:=RB _ e;omega
      ·omega
     have hh3:∀ y ∈ fp3,y≠Y11.heap.size∧y<Y17.heap.size:=fun y hy=>by have:=I3 y hy;omega
     have oq2:Own Y19 (DChange.sT (r.changes++[ch])) (.slice a5 (r.changes.length+1) c5) fq:=by
      rw[DChange.sT_vs,List.flatMap_append]
      simpa using oq
     have ov:OwnV Y19 (DRegister.tr ⟨PL,r.changes++[ch]⟩) [.slice a3 PL.length c3,.slice a5 (r.changes.length+1) c5] (fp3++(fq++[])):=OwnV.cons O3_19.out (OwnV.cons oq2 OwnV.nil (fun x _ hx=>by simp at hx)) (fun y hy h=>by have:=(hh3 y hy).2;have:=(hq y (by simpa using h)).1;omega);have hnin:Y11.heap.size ∉ fp3++(fq++[]):=fun e=>by
      simp only[List.append_nil,List.mem_append] at e
      rcases e with e|e
      ·exact (hh3 _ e).1 rfl
      ·exact (hq _ e).2 rfl
     have OF:=Lib.hid ((ov.setFar (p:=⟨Y11.heap.size,0,none⟩) hnin (.slice a3 PL.length c3)).setFar (p:=⟨Y11.heap.size,1,none⟩) hnin (.slice a5 (r.changes.length+1) c5));have IF_:Hid (In W0.heap.size ((Y19.setCell ⟨Y11.heap.size,0,none⟩ (.slice a3 PL.length c3)).setCell ⟨Y11.heap.size,1,none⟩ (.slice a5 (r.changes.length+1) c5)).heap.size (fp3++(fq++[]))):=fun y hy=>by
      simp only[List.append_nil,List.mem_append] at hy;simp only[size_setCell]
      rcases hy with h|h
      ·have:=I3 y h;omega
      ·exact iq y h
     have BF:=Lib.hid (((BY19.out).setCell (p:=⟨Y11.heap.size,0,none⟩) (by show W0.heap.size≤Y11.heap.size;omega) (.slice a3 PL.length c3)).setCell (p:=⟨Y11.heap.size,1,none⟩) (by show W0.heap.size≤Y11.heap.size;omega) (.slice a5 (r.changes.length+1) c5));have kf_:(((Y19.setCell ⟨Y11.heap.size,0,none⟩ (.slice a3 PL.length c3)).setCell ⟨Y11.heap.size,1,none⟩ (.slice a5 (r.changes.length+1) c5)).heap[Y11.heap.size]? = some (.cells #[.slice a3 PL.length c3,.slice a5 (r.changes.length+1) c5] 27 (0,0))):=by
      have h_:=bkS (bkS kh19.out 0 (.slice a3 PL.length c3)) 1 (.slice a5 (r.changes.length+1) c5)
      simpa using h_
     have KF:=Lib.hid kf_;clear kf_;have g0_:=bkC (v:=.slice none 0 0) kh19.out 0 rfl;have g1_:=bkC (v:=.slice none 0 0) kh19.out 1 rfl;have fz:=bkF kh19.out;clear oq iq mq hq hh3 oq2 ov hnin RB NB I3;go_wp2_with fail;go_meet;exact⟨_,a3,c3,a5,c5,_,rfl,KF.out,by omega,by simp only[size_setCell];omega,BF.out,OF.out,IF_.out⟩
   ·refine stepT_mk rfl (fun K hK=>?_)
    go_simp;have hb20:Below Y1.heap.size Y1 (Y1.alloc (.cells #[.slice none 0 0,.slice none 0 0] 27)):=below_alloc _ _;have kk20:=Lib.hid (bkN Y1 #[.slice none 0 0,.slice none 0 0] 27);have zl20:Y1.heap.size+1≤(Y1.alloc (.cells #[.slice none 0 0,.slice none 0 0] 27)).heap.size:=by simp
    refine hK.out _ _ (HKB.out _ (BY1.out.trans (hb20.mono (by omega)))) ?_;clear hK K
    (try simp only[Act.put,List.setIfInBounds_toArray,List.set_cons_zero,List.set_cons_succ])
    generalize (Y1.alloc (.cells #[.slice none 0 0,.slice none 0 0] 27))=Y20 at *;have bs20:Y1.heap.size≤Y20.heap.size:=hb20.size;have BY20:=Lib.hid (BY1.out.trans (hb20.mono (by omega)));have O3_20:=Lib.hid (O3_1.out.below I3 (by omega) hb20);clear hb20;refine wpTree_two ?_ ?_
    ·refine stepT_mk rfl (fun K hK=>?_)
     go_simp;refine (cloneChange_raw r.changes _ W0.heap.size Y20 ((HR1.out.mono (by omega)).below BY20.out) (by omega) (by omega)).mono ?_;rintro e Y21 ⟨a4,c4,xs,rfl,hb21,how,hx⟩;rw[flat_lits DChange.tr DChange.vs DChange.tr_vs] at hx;obtain rfl:=RdV_vals _ _ hx;clear hx;refine hK.out _ _ (HKB.out _ (BY20.out.trans (hb21.mono (by omega)))) ?_;clear hK K
     (try simp only[Act.put,List.setIfInBounds_toArray,List.set_cons_zero,List.set_cons_succ])
     have RW_21:=Lib.hid how;have RB:∀ b,(Value.slice a4 r.changes.length c4).ownBlock=some b→Y20.heap.size≤b∧b<Y21.heap.size:=fun b hb=>ownsRow_block how hb
     clear how;have bs21:Y20.heap.size≤Y21.heap.size:=hb21.size;have BY21:=Lib.hid (BY20.out.trans (hb21.mono (by omega)));have kh21:=Lib.hid (bkB kk20.out hb21 (by omega));have O3_21:=Lib.hid (O3_20.out.below I3 (by omega) hb21);clear hb21;refine wpTree_one ?_;refine stepT_mk rfl (fun K hK=>?_);go_simp;have hb22:Below Y21.heap.size Y21 (Y21.alloc (.cells #[.int .i64 ch.day,.string ch.key,.string ch.old_,.string ch.new_] 44)):=below_alloc _ _;have kk22:=Lib.hid (bkN Y21 #[.int .i64 ch.day,.string ch.key,.string ch.old_,.string ch.new_] 44);have zl22:Y21.heap.size+1≤(Y21.alloc (.cells #[.int .i64 ch.day,.string ch.key,.string ch.old_,.string ch.new_] 44)).heap.size:=by simp
     refine hK.out _ _ (HKB.out _ (BY21.out.trans (hb22.mono (by omega)))) ?_;clear hK K
     (try simp only[Act.put,List.setIfInBounds_toArray,List.set_cons_zero,List.set_cons_succ])
     generalize (Y21.alloc (.cells #[.int .i64 ch.day,.string ch.key,.string ch.old_,.string ch.new_] 44))=Y22 at *;have bs22:Y21.heap.size≤Y22.heap.size:=hb22.size;have BY22:=Lib.hid (BY21.out.trans (hb22.mono (by omega)));have kh22:=Lib.hid (bkB kh21.out hb22 (by omega));have O3_22:=Lib.hid (O3_21.out.below I3 (by omega) hb22);have RW_22:=Lib.hid (ownsRow_frame RW_21.out (fun g hg=>hb22.block g (by have:=(RB g hg).2;omega)));clear hb22;refine wpTree_one ?_;refine stepT_mk rfl (fun K hK=>?_);have hrd:Reads Y22 Y22.heap.size 4 (some ⟨Y21.heap.size,0,none⟩) 1 ch.vs:=⟨rfl,fun _=>⟨⟨Y21.heap.size,0,none⟩,rfl,by show Y21.heap.size<_;omega,fun j u hu=>by rw[add_mk,Nat.zero_add];exact (cell_of_row' kk22.out j).trans (by simpa [DChange.vs] using hu)⟩⟩
     refine wp_append_any _ (.tmp 13) (.tmp 15) _ rfl Y20.heap.size 44 iC _ 4 56 Tryz.underlying25 hC0 hC1 hC2 hC3 rfl (by omega) (.slice a4 r.changes.length c4) r.changes.length _ rfl RW_22.out Y22.heap.size _ 1 1 ch.vs rfl hrd (fun u hu=>DChange.vs_one [ch] u (by simpa using hu)) (by simp only[maxLen];omega) (by omega) (by omega) ?_;intro v5 Y23 hown hg hat;obtain⟨a5,c5,rfl,_⟩:=ownsRow_slice hown;have hb23:Below W0.heap.size Y22 Y23:=(Below.refl _ _).grown hg (by omega) (fun k hk=>by have:=RB k hk;omega);have bs23:Y22.heap.size≤Y23.heap.size:=hg.size;have kp23:∀ b,b<Y22.heap.size→(Value.slice a4 r.changes.length c4).ownBlock≠some b→Y23.heap[b]? = Y22.heap[b]?:=fun b hb hne=>hg.block b hb (fun e=>hne e.symm)
     have NB:∀ b,(Value.slice a5 (r.changes.length+1) c5).ownBlock=some b→(∃ b0,(Value.slice a4 r.changes.length c4).ownBlock=some b0∧b=b0)∨(b=Y22.heap.size∧b<Y23.heap.size):=fun b hb=>by
      have hlt_:=(ownsRow_block hown hb).2
      rcases hat with e|e
      ·rw[e] at hb;exact Or.inl ⟨b,hb,rfl⟩
      ·rw[e] at hb;injection hb with hb;exact Or.inr ⟨hb.symm,hlt_⟩
     refine hK.out _ _ (HKB.out _ (BY22.out.trans hb23)) ?_;clear hK K hat hg hrd
     (try simp only[Act.put,List.setIfInBounds_toArray,List.set_cons_zero,List.set_cons_succ])
     have RW_23:=Lib.hid hown;clear hown;have kh23:=Lib.hid ((kp23 (Y1.heap.size) (by omega) (fun e=>by have:=RB _ e;omega)).trans kh22.out);have O3_23:=Lib.hid (O3_22.out.frame (fun b hb=>kp23 b (by have:=(I3 b hb).2;omega) (fun e=>by have:=(I3 b hb).2;have:=RB _ e;omega)));have BY23:=Lib.hid (BY22.out.trans hb23);clear hb23 kp23;refine wpTree_read (v:=?_) rfl (fun _ _ _ h=>h) ?_ ?_
     rotate_left
     ·(intro W hSW;(try dsimp only at hSW);(go_simp<;>with_reducible rfl))
     (try simp only[Act.put,List.setIfInBounds_toArray,List.set_cons_zero,List.set_cons_succ])
     refine wpTree_nil ?_;simp only[List.drop_succ_cons,List.drop_zero];obtain⟨fq,oq,iq,mq⟩:=rowOwnB (lo:=W0.heap.size) RW_23.out (by omega) (by omega);have hq:∀ y ∈ fq,Y20.heap.size≤y∧y≠Y1.heap.size:=fun y hy=>by
      rcases NB y (mq y hy) with ⟨b0,e,rfl⟩|⟨rfl,hl_⟩
      ·have:=RB _ e;omega
      ·omega
     have hh3:∀ y ∈ fp3,y≠Y1.heap.size∧y<Y20.heap.size:=fun y hy=>by have:=I3 y hy;omega
     have oq2:Own Y23 (DChange.sT (r.changes++[ch])) (.slice a5 (r.changes.length+1) c5) fq:=by
      rw[DChange.sT_vs,List.flatMap_append]
      simpa using oq
     have ov:OwnV Y23 (DRegister.tr ⟨PL,r.changes++[ch]⟩) [.slice a3 PL.length c3,.slice a5 (r.changes.length+1) c5] (fp3++(fq++[])):=OwnV.cons O3_23.out (OwnV.cons oq2 OwnV.nil (fun x _ hx=>by simp at hx)) (fun y hy h=>by have:=(hh3 y hy).2;have:=(hq y (by simpa using h)).1;omega);have hnin:Y1.heap.size ∉ fp3++(fq++[]):=fun e=>by
      simp only[List.append_nil,List.mem_append] at e
      rcases e with e|e
      ·exact (hh3 _ e).1 rfl
      ·exact (hq _ e).2 rfl
     have OF:=Lib.hid ((ov.setFar (p:=⟨Y1.heap.size,0,none⟩) hnin (.slice a3 PL.length c3)).setFar (p:=⟨Y1.heap.size,1,none⟩) hnin (.slice a5 (r.changes.length+1) c5));have IF_:Hid (In W0.heap.size ((Y23.setCell ⟨Y1.heap.size,0,none⟩ (.slice a3 PL.length c3)).setCell ⟨Y1.heap.size,1,none⟩ (.slice a5 (r.changes.length+1) c5)).heap.size (fp3++(fq++[]))):=fun y hy=>by
      simp only[List.append_nil,List.mem_append] at hy;simp only[size_setCell]
      rcases hy with h|h
      ·have:=I3 y h;omega
      ·exact iq y h
     have BF:=Lib.hid (((BY23.out).setCell (p:=⟨Y1.heap.size,0,none⟩) (by show W0.heap.size≤Y1.heap.size;omega) (.slice a3 PL.length c3)).setCell (p:=⟨Y1.heap.size,1,none⟩) (by show W0.heap.size≤Y1.heap.size;omega) (.slice a5 (r.changes.length+1) c5));have kf_:(((Y23.setCell ⟨Y1.heap.size,0,none⟩ (.slice a3 PL.length c3)).setCell ⟨Y1.heap.size,1,none⟩ (.slice a5 (r.changes.length+1) c5)).heap[Y1.heap.size]? = some (.cells #[.slice a3 PL.length c3,.slice a5 (r.changes.length+1) c5] 27 (0,0))):=by
      have h_:=bkS (bkS kh23.out 0 (.slice a3 PL.length c3)) 1 (.slice a5 (r.changes.length+1) c5)
      simpa using h_
     have KF:=Lib.hid kf_;clear kf_;have g0_:=bkC (v:=.slice none 0 0) kh23.out 0 rfl;have g1_:=bkC (v:=.slice none 0 0) kh23.out 1 rfl;have fz:=bkF kh23.out;clear oq iq mq hq hh3 oq2 ov hnin RB NB I3;go_wp2_with fail;go_meet;exact⟨_,a3,c3,a5,c5,_,rfl,KF.out,by omega,by simp only[size_setCell];omega,BF.out,OF.out,IF_.out⟩
    ·refine stepT_mk rfl (fun K hK=>?_)
     go_simp;have hb24:Below Y20.heap.size Y20 (Y20.alloc (.cells #[.int .i64 ch.day,.string ch.key,.string ch.old_,.string ch.new_] 44)):=below_alloc _ _;have kk24:=Lib.hid (bkN Y20 #[.int .i64 ch.day,.string ch.key,.string ch.old_,.string ch.new_] 44);have zl24:Y20.heap.size+1≤(Y20.alloc (.cells #[.int .i64 ch.day,.string ch.key,.string ch.old_,.string ch.new_] 44)).heap.size:=by simp
     refine hK.out _ _ (HKB.out _ (BY20.out.trans (hb24.mono (by omega)))) ?_;clear hK K
     (try simp only[Act.put,List.setIfInBounds_toArray,List.set_cons_zero,List.set_cons_succ])
     generalize (Y20.alloc (.cells #[.int .i64 ch.day,.string ch.key,.string ch.old_,.string ch.new_] 44))=Y24 at *;have bs24:Y20.heap.size≤Y24.heap.size:=hb24.size;have BY24:=Lib.hid (BY20.out.trans (hb24.mono (by omega)));have kh24:=Lib.hid (bkB kk20.out hb24 (by omega));have O3_24:=Lib.hid (O3_20.out.below I3 (by omega) hb24);clear hb24;refine wpTree_one ?_;refine stepT_mk rfl (fun K hK=>?_);go_simp;refine (cloneChange_raw r.changes _ W0.heap.size Y24 ((HR1.out.mono (by omega)).below BY24.out) (by omega) (by omega)).mono ?_;rintro e Y25 ⟨a4,c4,xs,rfl,hb25,how,hx⟩;rw[flat_lits DChange.tr DChange.vs DChange.tr_vs] at hx;obtain rfl:=RdV_vals _ _ hx;clear hx;refine hK.out _ _ (HKB.out _ (BY24.out.trans (hb25.mono (by omega)))) ?_;clear hK K
     (try simp only[Act.put,List.setIfInBounds_toArray,List.set_cons_zero,List.set_cons_succ])
     have RW_25:=Lib.hid how;have RB:∀ b,(Value.slice a4 r.changes.length c4).ownBlock=some b→Y24.heap.size≤b∧b<Y25.heap.size:=fun b hb=>ownsRow_block how hb
     clear how;have bs25:Y24.heap.size≤Y25.heap.size:=hb25.size;have BY25:=Lib.hid (BY24.out.trans (hb25.mono (by omega)));have kh25:=Lib.hid (bkB kh24.out hb25 (by omega));have kb25:=Lib.hid (bkB kk24.out hb25 (by omega));have O3_25:=Lib.hid (O3_24.out.below I3 (by omega) hb25);clear hb25;refine wpTree_one ?_;refine stepT_mk rfl (fun K hK=>?_);have hrd:Reads Y25 Y25.heap.size 4 (some ⟨Y20.heap.size,0,none⟩) 1 ch.vs:=⟨rfl,fun _=>⟨⟨Y20.heap.size,0,none⟩,rfl,by show Y20.heap.size<_;omega,fun j u hu=>by rw[add_mk,Nat.zero_add];exact (cell_of_row' kb25.out j).trans (by simpa [DChange.vs] using hu)⟩⟩
     refine wp_append_any _ (.tmp 13) (.tmp 15) _ rfl Y24.heap.size 44 iC _ 4 56 Tryz.underlying25 hC0 hC1 hC2 hC3 rfl (by omega) (.slice a4 r.changes.length c4) r.changes.length _ rfl RW_25.out Y25.heap.size _ 1 1 ch.vs rfl hrd (fun u hu=>DChange.vs_one [ch] u (by simpa using hu)) (by simp only[maxLen];omega) (by omega) (by omega) ?_;intro v5 Y26 hown hg hat;obtain⟨a5,c5,rfl,_⟩:=ownsRow_slice hown;have hb26:Below W0.heap.size Y25 Y26:=(Below.refl _ _).grown hg (by omega) (fun k hk=>by have:=RB k hk;omega);have bs26:Y25.heap.size≤Y26.heap.size:=hg.size;have kp26:∀ b,b<Y25.heap.size→(Value.slice a4 r.changes.length c4).ownBlock≠some b→Y26.heap[b]? = Y25.heap[b]?:=fun b hb hne=>hg.block b hb (fun e=>hne e.symm)
     have NB:∀ b,(Value.slice a5 (r.changes.length+1) c5).ownBlock=some b→(∃ b0,(Value.slice a4 r.changes.length c4).ownBlock=some b0∧b=b0)∨(b=Y25.heap.size∧b<Y26.heap.size):=fun b hb=>by
      have hlt_:=(ownsRow_block hown hb).2
      rcases hat with e|e
      ·rw[e] at hb;exact Or.inl ⟨b,hb,rfl⟩
      ·rw[e] at hb;injection hb with hb;exact Or.inr ⟨hb.symm,hlt_⟩
     refine hK.out _ _ (HKB.out _ (BY25.out.trans hb26)) ?_;clear hK K hat hg hrd
     (try simp only[Act.put,List.setIfInBounds_toArray,List.set_cons_zero,List.set_cons_succ])
     have RW_26:=Lib.hid hown;clear hown;have kh26:=Lib.hid ((kp26 (Y1.heap.size) (by omega) (fun e=>by have:=RB _ e;omega)).trans kh25.out);have O3_26:=Lib.hid (O3_25.out.frame (fun b hb=>kp26 b (by have:=(I3 b hb).2;omega) (fun e=>by have:=(I3 b hb).2;have:=RB _ e;omega)));have BY26:=Lib.hid (BY25.out.trans hb26);clear hb26 kp26;refine wpTree_read (v:=?_) rfl (fun _ _ _ h=>h) ?_ ?_
     rotate_left
     ·(intro W hSW;(try dsimp only at hSW);(go_simp<;>with_reducible rfl))
     (try simp only[Act.put,List.setIfInBounds_toArray,List.set_cons_zero,List.set_cons_succ])
     refine wpTree_nil ?_;simp only[List.drop_succ_cons,List.drop_zero];obtain⟨fq,oq,iq,mq⟩:=rowOwnB (lo:=W0.heap.size) RW_26.out (by omega) (by omega);have hq:∀ y ∈ fq,Y24.heap.size≤y∧y≠Y1.heap.size:=fun y hy=>by
      rcases NB y (mq y hy) with ⟨b0,e,rfl⟩|⟨rfl,hl_⟩
      ·have:=RB _ e;omega
      ·omega
     have hh3:∀ y ∈ fp3,y≠Y1.heap.size∧y<Y24.heap.size:=fun y hy=>by have:=I3 y hy;omega
     have oq2:Own Y26 (DChange.sT (r.changes++[ch])) (.slice a5 (r.changes.length+1) c5) fq:=by
      rw[DChange.sT_vs,List.flatMap_append]
      simpa using oq
     have ov:OwnV Y26 (DRegister.tr ⟨PL,r.changes++[ch]⟩) [.slice a3 PL.length c3,.slice a5 (r.changes.length+1) c5] (fp3++(fq++[])):=OwnV.cons O3_26.out (OwnV.cons oq2 OwnV.nil (fun x _ hx=>by simp at hx)) (fun y hy h=>by have:=(hh3 y hy).2;have:=(hq y (by simpa using h)).1;omega);have hnin:Y1.heap.size ∉ fp3++(fq++[]):=fun e=>by
      simp only[List.append_nil,List.mem_append] at e
      rcases e with e|e
      ·exact (hh3 _ e).1 rfl
      ·exact (hq _ e).2 rfl
     have OF:=Lib.hid ((ov.setFar (p:=⟨Y1.heap.size,0,none⟩) hnin (.slice a3 PL.length c3)).setFar (p:=⟨Y1.heap.size,1,none⟩) hnin (.slice a5 (r.changes.length+1) c5));have IF_:Hid (In W0.heap.size ((Y26.setCell ⟨Y1.heap.size,0,none⟩ (.slice a3 PL.length c3)).setCell ⟨Y1.heap.size,1,none⟩ (.slice a5 (r.changes.length+1) c5)).heap.size (fp3++(fq++[]))):=fun y hy=>by
      simp only[List.append_nil,List.mem_append] at hy;simp only[size_setCell]
      rcases hy with h|h
      ·have:=I3 y h;omega
      ·exact iq y h
     have BF:=Lib.hid (((BY26.out).setCell (p:=⟨Y1.heap.size,0,none⟩) (by show W0.heap.size≤Y1.heap.size;omega) (.slice a3 PL.length c3)).setCell (p:=⟨Y1.heap.size,1,none⟩) (by show W0.heap.size≤Y1.heap.size;omega) (.slice a5 (r.changes.length+1) c5));have kf_:(((Y26.setCell ⟨Y1.heap.size,0,none⟩ (.slice a3 PL.length c3)).setCell ⟨Y1.heap.size,1,none⟩ (.slice a5 (r.changes.length+1) c5)).heap[Y1.heap.size]? = some (.cells #[.slice a3 PL.length c3,.slice a5 (r.changes.length+1) c5] 27 (0,0))):=by
      have h_:=bkS (bkS kh26.out 0 (.slice a3 PL.length c3)) 1 (.slice a5 (r.changes.length+1) c5)
      simpa using h_
     have KF:=Lib.hid kf_;clear kf_;have g0_:=bkC (v:=.slice none 0 0) kh26.out 0 rfl;have g1_:=bkC (v:=.slice none 0 0) kh26.out 1 rfl;have fz:=bkF kh26.out;clear oq iq mq hq hh3 oq2 ov hnin RB NB I3;go_wp2_with fail;go_meet;exact⟨_,a3,c3,a5,c5,_,rfl,KF.out,by omega,by simp only[size_setCell];omega,BF.out,OF.out,IF_.out⟩
  ·refine stepT_mk rfl (fun K hK=>?_)
   go_simp;have hb27:Below Y.heap.size Y (Y.alloc (.cells #[.int .i64 ch.day,.string ch.key,.string ch.old_,.string ch.new_] 44)):=below_alloc _ _;have kk27:=Lib.hid (bkN Y #[.int .i64 ch.day,.string ch.key,.string ch.old_,.string ch.new_] 44);have zl27:Y.heap.size+1≤(Y.alloc (.cells #[.int .i64 ch.day,.string ch.key,.string ch.old_,.string ch.new_] 44)).heap.size:=by simp
   refine hK.out _ _ (HKB.out _ (BBd.out.trans (hb27.mono (by omega)))) ?_;clear hK K
   (try simp only[Act.put,List.setIfInBounds_toArray,List.set_cons_zero,List.set_cons_succ])
   generalize (Y.alloc (.cells #[.int .i64 ch.day,.string ch.key,.string ch.old_,.string ch.new_] 44))=Y27 at *;have bs27:Y.heap.size≤Y27.heap.size:=hb27.size;have BY27:=Lib.hid (BBd.out.trans (hb27.mono (by omega)));clear hb27;refine wpTree_two ?_ ?_
   ·refine stepT_mk rfl (fun K hK=>?_)
    go_simp;refine (made_any r.records ch _ Y27 ((HR0.out.below (BY27.out.mono (by omega))).mono (by omega)) hn0 HRI.out HDEL.out).mono ?_;rw[HPL.out];rintro e Y28 ⟨a3,c3,fp3,rfl,hb28,ho,hi⟩;refine hK.out _ _ (HKB.out _ (BY27.out.trans (hb28.mono (by omega)))) ?_;clear hK K
    (try simp only[Act.put,List.setIfInBounds_toArray,List.set_cons_zero,List.set_cons_succ])
    have O3_28:=Lib.hid ho;have I3:In Y27.heap.size Y28.heap.size fp3:=hi;clear ho hi;have bs28:Y27.heap.size≤Y28.heap.size:=hb28.size;have BY28:=Lib.hid (BY27.out.trans (hb28.mono (by omega)));have kb28:=Lib.hid (bkB kk27.out hb28 (by omega));clear hb28;refine wpTree_two ?_ ?_
    ·refine stepT_mk rfl (fun K hK=>?_)
     go_simp;refine (cloneChange_raw r.changes _ W0.heap.size Y28 ((HR1.out.mono (by omega)).below BY28.out) (by omega) (by omega)).mono ?_;rintro e Y29 ⟨a4,c4,xs,rfl,hb29,how,hx⟩;rw[flat_lits DChange.tr DChange.vs DChange.tr_vs] at hx;obtain rfl:=RdV_vals _ _ hx;clear hx;refine hK.out _ _ (HKB.out _ (BY28.out.trans (hb29.mono (by omega)))) ?_;clear hK K
     (try simp only[Act.put,List.setIfInBounds_toArray,List.set_cons_zero,List.set_cons_succ])
     have RW_29:=Lib.hid how;have RB:∀ b,(Value.slice a4 r.changes.length c4).ownBlock=some b→Y28.heap.size≤b∧b<Y29.heap.size:=fun b hb=>ownsRow_block how hb
     clear how;have bs29:Y28.heap.size≤Y29.heap.size:=hb29.size;have BY29:=Lib.hid (BY28.out.trans (hb29.mono (by omega)));have kb29:=Lib.hid (bkB kb28.out hb29 (by omega));have O3_29:=Lib.hid (O3_28.out.below I3 (by omega) hb29);clear hb29;refine wpTree_two ?_ ?_
     ·refine stepT_mk rfl (fun K hK=>?_)
      have hrd:Reads Y29 Y29.heap.size 4 (some ⟨Y.heap.size,0,none⟩) 1 ch.vs:=⟨rfl,fun _=>⟨⟨Y.heap.size,0,none⟩,rfl,by show Y.heap.size<_;omega,fun j u hu=>by rw[add_mk,Nat.zero_add];exact (cell_of_row' kb29.out j).trans (by simpa [DChange.vs] using hu)⟩⟩
      refine wp_append_any _ (.tmp 13) (.tmp 15) _ rfl Y28.heap.size 44 iC _ 4 56 Tryz.underlying25 hC0 hC1 hC2 hC3 rfl (by omega) (.slice a4 r.changes.length c4) r.changes.length _ rfl RW_29.out Y29.heap.size _ 1 1 ch.vs rfl hrd (fun u hu=>DChange.vs_one [ch] u (by simpa using hu)) (by simp only[maxLen];omega) (by omega) (by omega) ?_;intro v5 Y30 hown hg hat;obtain⟨a5,c5,rfl,_⟩:=ownsRow_slice hown;have hb30:Below W0.heap.size Y29 Y30:=(Below.refl _ _).grown hg (by omega) (fun k hk=>by have:=RB k hk;omega);have bs30:Y29.heap.size≤Y30.heap.size:=hg.size;have kp30:∀ b,b<Y29.heap.size→(Value.slice a4 r.changes.length c4).ownBlock≠some b→Y30.heap[b]? = Y29.heap[b]?:=fun b hb hne=>hg.block b hb (fun e=>hne e.symm)
      have NB:∀ b,(Value.slice a5 (r.changes.length+1) c5).ownBlock=some b→(∃ b0,(Value.slice a4 r.changes.length c4).ownBlock=some b0∧b=b0)∨(b=Y29.heap.size∧b<Y30.heap.size):=fun b hb=>by
       have hlt_:=(ownsRow_block hown hb).2
       rcases hat with e|e
       ·rw[e] at hb;exact Or.inl ⟨b,hb,rfl⟩
       ·rw[e] at hb;injection hb with hb;exact Or.inr ⟨hb.symm,hlt_⟩
      refine hK.out _ _ (HKB.out _ (BY29.out.trans hb30)) ?_;clear hK K hat hg hrd
      (try simp only[Act.put,List.setIfInBounds_toArray,List.set_cons_zero,List.set_cons_succ])
      have RW_30:=Lib.hid hown;clear hown;have O3_30:=Lib.hid (O3_29.out.frame (fun b hb=>kp30 b (by have:=(I3 b hb).2;omega) (fun e=>by have:=(I3 b hb).2;have:=RB _ e;omega)));have BY30:=Lib.hid (BY29.out.trans hb30);clear hb30 kp30;refine wpTree_read (v:=?_) rfl (fun _ _ _ h=>h) ?_ ?_
      rotate_left
      ·(intro W hSW;(try dsimp only at hSW);(go_simp<;>with_reducible rfl))
      (try simp only[Act.put,List.setIfInBounds_toArray,List.set_cons_zero,List.set_cons_succ])
      refine wpTree_one ?_;refine stepT_mk rfl (fun K hK=>?_);go_simp;have hb31:Below Y30.heap.size Y30 (Y30.alloc (.cells #[.slice none 0 0,.slice none 0 0] 27)):=below_alloc _ _;have kk31:=Lib.hid (bkN Y30 #[.slice none 0 0,.slice none 0 0] 27);have zl31:Y30.heap.size+1≤(Y30.alloc (.cells #[.slice none 0 0,.slice none 0 0] 27)).heap.size:=by simp
      refine hK.out _ _ (HKB.out _ (BY30.out.trans (hb31.mono (by omega)))) ?_;clear hK K
      (try simp only[Act.put,List.setIfInBounds_toArray,List.set_cons_zero,List.set_cons_succ])
      generalize (Y30.alloc (.cells #[.slice none 0 0,.slice none 0 0] 27))=Y31 at *;have bs31:Y30.heap.size≤Y31.heap.size:=hb31.size;have BY31:=Lib.hid (BY30.out.trans (hb31.mono (by omega)));have O3_31:=Lib.hid (O3_30.out.below I3 (by omega) hb31);have RW_31:=Lib.hid (ownsRow_frame RW_30.out (fun g hg=>hb31.block g (ownsRow_block RW_30.out hg).2));clear hb31;refine wpTree_nil ?_;simp only[List.drop_succ_cons,List.drop_zero];obtain⟨fq,oq,iq,mq⟩:=rowOwnB (lo:=W0.heap.size) RW_31.out (by omega) (by omega);have hq:∀ y ∈ fq,Y28.heap.size≤y∧y≠Y30.heap.size:=fun y hy=>by
       rcases NB y (mq y hy) with ⟨b0,e,rfl⟩|⟨rfl,hl_⟩
       ·have:=RB _ e;omega
       ·omega
      have hh3:∀ y ∈ fp3,y≠Y30.heap.size∧y<Y28.heap.size:=fun y hy=>by have:=I3 y hy;omega
      have oq2:Own Y31 (DChange.sT (r.changes++[ch])) (.slice a5 (r.changes.length+1) c5) fq:=by
       rw[DChange.sT_vs,List.flatMap_append]
       simpa using oq
      have ov:OwnV Y31 (DRegister.tr ⟨PL,r.changes++[ch]⟩) [.slice a3 PL.length c3,.slice a5 (r.changes.length+1) c5] (fp3++(fq++[])):=OwnV.cons O3_31.out (OwnV.cons oq2 OwnV.nil (fun x _ hx=>by simp at hx)) (fun y hy h=>by have:=(hh3 y hy).2;have:=(hq y (by simpa using h)).1;omega);have hnin:Y30.heap.size ∉ fp3++(fq++[]):=fun e=>by
       simp only[List.append_nil,List.mem_append] at e
       rcases e with e|e
       ·exact (hh3 _ e).1 rfl
       ·exact (hq _ e).2 rfl
      have OF:=Lib.hid ((ov.setFar (p:=⟨Y30.heap.size,0,none⟩) hnin (.slice a3 PL.length c3)).setFar (p:=⟨Y30.heap.size,1,none⟩) hnin (.slice a5 (r.changes.length+1) c5));have IF_:Hid (In W0.heap.size ((Y31.setCell ⟨Y30.heap.size,0,none⟩ (.slice a3 PL.length c3)).setCell ⟨Y30.heap.size,1,none⟩ (.slice a5 (r.changes.length+1) c5)).heap.size (fp3++(fq++[]))):=fun y hy=>by
       simp only[List.append_nil,List.mem_append] at hy;simp only[size_setCell]
       rcases hy with h|h
       ·have:=I3 y h;omega
       ·exact iq y h
      have BF:=Lib.hid (((BY31.out).setCell (p:=⟨Y30.heap.size,0,none⟩) (by show W0.heap.size≤Y30.heap.size;omega) (.slice a3 PL.length c3)).setCell (p:=⟨Y30.heap.size,1,none⟩) (by show W0.heap.size≤Y30.heap.size;omega) (.slice a5 (r.changes.length+1) c5));have kf_:(((Y31.setCell ⟨Y30.heap.size,0,none⟩ (.slice a3 PL.length c3)).setCell ⟨Y30.heap.size,1,none⟩ (.slice a5 (r.changes.length+1) c5)).heap[Y30.heap.size]? = some (.cells #[.slice a3 PL.length c3,.slice a5 (r.changes.length+1) c5] 27 (0,0))):=by
       have h_:=bkS (bkS kk31.out 0 (.slice a3 PL.length c3)) 1 (.slice a5 (r.changes.length+1) c5)
       simpa using h_
      have KF:=Lib.hid kf_;clear kf_;have g0_:=bkC (v:=.slice none 0 0) kk31.out 0 rfl;have g1_:=bkC (v:=.slice none 0 0) kk31.out 1 rfl;have fz:=bkF kk31.out;clear oq iq mq hq hh3 oq2 ov hnin RB NB I3;go_wp2_with fail;go_meet;exact⟨_,a3,c3,a5,c5,_,rfl,KF.out,by omega,by simp only[size_setCell];omega,BF.out,OF.out,IF_.out⟩
     ·refine stepT_mk rfl (fun K hK=>?_)
      go_simp;have hb32:Below Y29.heap.size Y29 (Y29.alloc (.cells #[.slice none 0 0,.slice none 0 0] 27)):=below_alloc _ _;have kk32:=Lib.hid (bkN Y29 #[.slice none 0 0,.slice none 0 0] 27);have zl32:Y29.heap.size+1≤(Y29.alloc (.cells #[.slice none 0 0,.slice none 0 0] 27)).heap.size:=by simp
      refine hK.out _ _ (HKB.out _ (BY29.out.trans (hb32.mono (by omega)))) ?_;clear hK K
      (try simp only[Act.put,List.setIfInBounds_toArray,List.set_cons_zero,List.set_cons_succ])
      generalize (Y29.alloc (.cells #[.slice none 0 0,.slice none 0 0] 27))=Y32 at *;have bs32:Y29.heap.size≤Y32.heap.size:=hb32.size;have BY32:=Lib.hid (BY29.out.trans (hb32.mono (by omega)));have kb32:=Lib.hid (bkB kb29.out hb32 (by omega));have O3_32:=Lib.hid (O3_29.out.below I3 (by omega) hb32);have RW_32:=Lib.hid (ownsRow_frame RW_29.out (fun g hg=>hb32.block g (by have:=(RB g hg).2;omega)));clear hb32;refine wpTree_one ?_;refine stepT_mk rfl (fun K hK=>?_);have hrd:Reads Y32 Y32.heap.size 4 (some ⟨Y.heap.size,0,none⟩) 1 ch.vs:=⟨rfl,fun _=>⟨⟨Y.heap.size,0,none⟩,rfl,by show Y.heap.size<_;omega,fun j u hu=>by rw[add_mk,Nat.zero_add];exact (cell_of_row' kb32.out j).trans (by simpa [DChange.vs] using hu)⟩⟩
      refine wp_append_any _ (.tmp 13) (.tmp 15) _ rfl Y28.heap.size 44 iC _ 4 56 Tryz.underlying25 hC0 hC1 hC2 hC3 rfl (by omega) (.slice a4 r.changes.length c4) r.changes.length _ rfl RW_32.out Y32.heap.size _ 1 1 ch.vs rfl hrd (fun u hu=>DChange.vs_one [ch] u (by simpa using hu)) (by simp only[maxLen];omega) (by omega) (by omega) ?_;intro v5 Y33 hown hg hat;obtain⟨a5,c5,rfl,_⟩:=ownsRow_slice hown;have hb33:Below W0.heap.size Y32 Y33:=(Below.refl _ _).grown hg (by omega) (fun k hk=>by have:=RB k hk;omega);have bs33:Y32.heap.size≤Y33.heap.size:=hg.size;have kp33:∀ b,b<Y32.heap.size→(Value.slice a4 r.changes.length c4).ownBlock≠some b→Y33.heap[b]? = Y32.heap[b]?:=fun b hb hne=>hg.block b hb (fun e=>hne e.symm)
      have NB:∀ b,(Value.slice a5 (r.changes.length+1) c5).ownBlock=some b→(∃ b0,(Value.slice a4 r.changes.length c4).ownBlock=some b0∧b=b0)∨(b=Y32.heap.size∧b<Y33.heap.size):=fun b hb=>by
       have hlt_:=(ownsRow_block hown hb).2
       rcases hat with e|e
       ·rw[e] at hb;exact Or.inl ⟨b,hb,rfl⟩
       ·rw[e] at hb;injection hb with hb;exact Or.inr ⟨hb.symm,hlt_⟩
      refine hK.out _ _ (HKB.out _ (BY32.out.trans hb33)) ?_;clear hK K hat hg hrd
      (try simp only[Act.put,List.setIfInBounds_toArray,List.set_cons_zero,List.set_cons_succ])
      have RW_33:=Lib.hid hown;clear hown;have kh33:=Lib.hid ((kp33 (Y29.heap.size) (by omega) (fun e=>by have:=RB _ e;omega)).trans kk32.out);have O3_33:=Lib.hid (O3_32.out.frame (fun b hb=>kp33 b (by have:=(I3 b hb).2;omega) (fun e=>by have:=(I3 b hb).2;have:=RB _ e;omega)));have BY33:=Lib.hid (BY32.out.trans hb33);clear hb33 kp33;refine wpTree_read (v:=?_) rfl (fun _ _ _ h=>h) ?_ ?_
      rotate_left
      ·(intro W hSW;(try dsimp only at hSW);(go_simp<;>with_reducible rfl))
      (try simp only[Act.put,List.setIfInBounds_toArray,List.set_cons_zero,List.set_cons_succ])
      refine wpTree_nil ?_;simp only[List.drop_succ_cons,List.drop_zero];obtain⟨fq,oq,iq,mq⟩:=rowOwnB (lo:=W0.heap.size) RW_33.out (by omega) (by omega);have hq:∀ y ∈ fq,Y28.heap.size≤y∧y≠Y29.heap.size:=fun y hy=>by
       rcases NB y (mq y hy) with ⟨b0,e,rfl⟩|⟨rfl,hl_⟩
       ·have:=RB _ e;omega
       ·omega
      have hh3:∀ y ∈ fp3,y≠Y29.heap.size∧y<Y28.heap.size:=fun y hy=>by have:=I3 y hy;omega
      have oq2:Own Y33 (DChange.sT (r.changes++[ch])) (.slice a5 (r.changes.length+1) c5) fq:=by
       rw[DChange.sT_vs,List.flatMap_append]
       simpa using oq
      have ov:OwnV Y33 (DRegister.tr ⟨PL,r.changes++[ch]⟩) [.slice a3 PL.length c3,.slice a5 (r.changes.length+1) c5] (fp3++(fq++[])):=OwnV.cons O3_33.out (OwnV.cons oq2 OwnV.nil (fun x _ hx=>by simp at hx)) (fun y hy h=>by have:=(hh3 y hy).2;have:=(hq y (by simpa using h)).1;omega);have hnin:Y29.heap.size ∉ fp3++(fq++[]):=fun e=>by
       simp only[List.append_nil,List.mem_append] at e
       rcases e with e|e
       ·exact (hh3 _ e).1 rfl
       ·exact (hq _ e).2 rfl
      have OF:=Lib.hid ((ov.setFar (p:=⟨Y29.heap.size,0,none⟩) hnin (.slice a3 PL.length c3)).setFar (p:=⟨Y29.heap.size,1,none⟩) hnin (.slice a5 (r.changes.length+1) c5));have IF_:Hid (In W0.heap.size ((Y33.setCell ⟨Y29.heap.size,0,none⟩ (.slice a3 PL.length c3)).setCell ⟨Y29.heap.size,1,none⟩ (.slice a5 (r.changes.length+1) c5)).heap.size (fp3++(fq++[]))):=fun y hy=>by
       simp only[List.append_nil,List.mem_append] at hy;simp only[size_setCell]
       rcases hy with h|h
       ·have:=I3 y h;omega
       ·exact iq y h
      have BF:=Lib.hid (((BY33.out).setCell (p:=⟨Y29.heap.size,0,none⟩) (by show W0.heap.size≤Y29.heap.size;omega) (.slice a3 PL.length c3)).setCell (p:=⟨Y29.heap.size,1,none⟩) (by show W0.heap.size≤Y29.heap.size;omega) (.slice a5 (r.changes.length+1) c5));have kf_:(((Y33.setCell ⟨Y29.heap.size,0,none⟩ (.slice a3 PL.length c3)).setCell ⟨Y29.heap.size,1,none⟩ (.slice a5 (r.changes.length+1) c5)).heap[Y29.heap.size]? = some (.cells #[.slice a3 PL.length c3,.slice a5 (r.changes.length+1) c5] 27 (0,0))):=by
       have h_:=bkS (bkS kh33.out 0 (.slice a3 PL.length c3)) 1 (.slice a5 (r.changes.length+1) c5)
       simpa using h_
      have KF:=Lib.hid kf_;clear kf_;have g0_:=bkC (v:=.slice none 0 0) kh33.out 0 rfl;have g1_:=bkC (v:=.slice none 0 0) kh33.out 1 rfl;have fz:=bkF kh33.out;clear oq iq mq hq hh3 oq2 ov hnin RB NB I3;go_wp2_with fail;go_meet;exact⟨_,a3,c3,a5,c5,_,rfl,KF.out,by omega,by simp only[size_setCell];omega,BF.out,OF.out,IF_.out⟩
    ·refine stepT_mk rfl (fun K hK=>?_)
     go_simp;have hb34:Below Y28.heap.size Y28 (Y28.alloc (.cells #[.slice none 0 0,.slice none 0 0] 27)):=below_alloc _ _;have kk34:=Lib.hid (bkN Y28 #[.slice none 0 0,.slice none 0 0] 27);have zl34:Y28.heap.size+1≤(Y28.alloc (.cells #[.slice none 0 0,.slice none 0 0] 27)).heap.size:=by simp
     refine hK.out _ _ (HKB.out _ (BY28.out.trans (hb34.mono (by omega)))) ?_;clear hK K
     (try simp only[Act.put,List.setIfInBounds_toArray,List.set_cons_zero,List.set_cons_succ])
     generalize (Y28.alloc (.cells #[.slice none 0 0,.slice none 0 0] 27))=Y34 at *;have bs34:Y28.heap.size≤Y34.heap.size:=hb34.size;have BY34:=Lib.hid (BY28.out.trans (hb34.mono (by omega)));have kb34:=Lib.hid (bkB kb28.out hb34 (by omega));have O3_34:=Lib.hid (O3_28.out.below I3 (by omega) hb34);clear hb34;refine wpTree_one ?_;refine stepT_mk rfl (fun K hK=>?_);go_simp;refine (cloneChange_raw r.changes _ W0.heap.size Y34 ((HR1.out.mono (by omega)).below BY34.out) (by omega) (by omega)).mono ?_;rintro e Y35 ⟨a4,c4,xs,rfl,hb35,how,hx⟩;rw[flat_lits DChange.tr DChange.vs DChange.tr_vs] at hx;obtain rfl:=RdV_vals _ _ hx;clear hx;refine hK.out _ _ (HKB.out _ (BY34.out.trans (hb35.mono (by omega)))) ?_;clear hK K
     (try simp only[Act.put,List.setIfInBounds_toArray,List.set_cons_zero,List.set_cons_succ])
     have RW_35:=Lib.hid how;have RB:∀ b,(Value.slice a4 r.changes.length c4).ownBlock=some b→Y34.heap.size≤b∧b<Y35.heap.size:=fun b hb=>ownsRow_block how hb
     clear how;have bs35:Y34.heap.size≤Y35.heap.size:=hb35.size;have BY35:=Lib.hid (BY34.out.trans (hb35.mono (by omega)));have kh35:=Lib.hid (bkB kk34.out hb35 (by omega));have kb35:=Lib.hid (bkB kb34.out hb35 (by omega));have O3_35:=Lib.hid (O3_34.out.below I3 (by omega) hb35);clear hb35;refine wpTree_one ?_;refine stepT_mk rfl (fun K hK=>?_);have hrd:Reads Y35 Y35.heap.size 4 (some ⟨Y.heap.size,0,none⟩) 1 ch.vs:=⟨rfl,fun _=>⟨⟨Y.heap.size,0,none⟩,rfl,by show Y.heap.size<_;omega,fun j u hu=>by rw[add_mk,Nat.zero_add];exact (cell_of_row' kb35.out j).trans (by simpa [DChange.vs] using hu)⟩⟩
     refine wp_append_any _ (.tmp 13) (.tmp 15) _ rfl Y34.heap.size 44 iC _ 4 56 Tryz.underlying25 hC0 hC1 hC2 hC3 rfl (by omega) (.slice a4 r.changes.length c4) r.changes.length _ rfl RW_35.out Y35.heap.size _ 1 1 ch.vs rfl hrd (fun u hu=>DChange.vs_one [ch] u (by simpa using hu)) (by simp only[maxLen];omega) (by omega) (by omega) ?_;intro v5 Y36 hown hg hat;obtain⟨a5,c5,rfl,_⟩:=ownsRow_slice hown;have hb36:Below W0.heap.size Y35 Y36:=(Below.refl _ _).grown hg (by omega) (fun k hk=>by have:=RB k hk;omega);have bs36:Y35.heap.size≤Y36.heap.size:=hg.size;have kp36:∀ b,b<Y35.heap.size→(Value.slice a4 r.changes.length c4).ownBlock≠some b→Y36.heap[b]? = Y35.heap[b]?:=fun b hb hne=>hg.block b hb (fun e=>hne e.symm)
     have NB:∀ b,(Value.slice a5 (r.changes.length+1) c5).ownBlock=some b→(∃ b0,(Value.slice a4 r.changes.length c4).ownBlock=some b0∧b=b0)∨(b=Y35.heap.size∧b<Y36.heap.size):=fun b hb=>by
      have hlt_:=(ownsRow_block hown hb).2
      rcases hat with e|e
      ·rw[e] at hb;exact Or.inl ⟨b,hb,rfl⟩
      ·rw[e] at hb;injection hb with hb;exact Or.inr ⟨hb.symm,hlt_⟩
     refine hK.out _ _ (HKB.out _ (BY35.out.trans hb36)) ?_;clear hK K hat hg hrd
     (try simp only[Act.put,List.setIfInBounds_toArray,List.set_cons_zero,List.set_cons_succ])
     have RW_36:=Lib.hid hown;clear hown;have kh36:=Lib.hid ((kp36 (Y28.heap.size) (by omega) (fun e=>by have:=RB _ e;omega)).trans kh35.out);have O3_36:=Lib.hid (O3_35.out.frame (fun b hb=>kp36 b (by have:=(I3 b hb).2;omega) (fun e=>by have:=(I3 b hb).2;have:=RB _ e;omega)));have BY36:=Lib.hid (BY35.out.trans hb36);clear hb36 kp36;refine wpTree_read (v:=?_) rfl (fun _ _ _ h=>h) ?_ ?_
     rotate_left
     ·(intro W hSW;(try dsimp only at hSW);(go_simp<;>with_reducible rfl))
     (try simp only[Act.put,List.setIfInBounds_toArray,List.set_cons_zero,List.set_cons_succ])
     refine wpTree_nil ?_;simp only[List.drop_succ_cons,List.drop_zero];obtain⟨fq,oq,iq,mq⟩:=rowOwnB (lo:=W0.heap.size) RW_36.out (by omega) (by omega);have hq:∀ y ∈ fq,Y34.heap.size≤y∧y≠Y28.heap.size:=fun y hy=>by
      rcases NB y (mq y hy) with ⟨b0,e,rfl⟩|⟨rfl,hl_⟩
      ·have:=RB _ e;omega
      ·omega
     have hh3:∀ y ∈ fp3,y≠Y28.heap.size∧y<Y34.heap.size:=fun y hy=>by have:=I3 y hy;omega
     have oq2:Own Y36 (DChange.sT (r.changes++[ch])) (.slice a5 (r.changes.length+1) c5) fq:=by
      rw[DChange.sT_vs,List.flatMap_append]
      simpa using oq
     have ov:OwnV Y36 (DRegister.tr ⟨PL,r.changes++[ch]⟩) [.slice a3 PL.length c3,.slice a5 (r.changes.length+1) c5] (fp3++(fq++[])):=OwnV.cons O3_36.out (OwnV.cons oq2 OwnV.nil (fun x _ hx=>by simp at hx)) (fun y hy h=>by have:=(hh3 y hy).2;have:=(hq y (by simpa using h)).1;omega);have hnin:Y28.heap.size ∉ fp3++(fq++[]):=fun e=>by
      simp only[List.append_nil,List.mem_append] at e
      rcases e with e|e
      ·exact (hh3 _ e).1 rfl
      ·exact (hq _ e).2 rfl
     have OF:=Lib.hid ((ov.setFar (p:=⟨Y28.heap.size,0,none⟩) hnin (.slice a3 PL.length c3)).setFar (p:=⟨Y28.heap.size,1,none⟩) hnin (.slice a5 (r.changes.length+1) c5));have IF_:Hid (In W0.heap.size ((Y36.setCell ⟨Y28.heap.size,0,none⟩ (.slice a3 PL.length c3)).setCell ⟨Y28.heap.size,1,none⟩ (.slice a5 (r.changes.length+1) c5)).heap.size (fp3++(fq++[]))):=fun y hy=>by
      simp only[List.append_nil,List.mem_append] at hy;simp only[size_setCell]
      rcases hy with h|h
      ·have:=I3 y h;omega
      ·exact iq y h
     have BF:=Lib.hid (((BY36.out).setCell (p:=⟨Y28.heap.size,0,none⟩) (by show W0.heap.size≤Y28.heap.size;omega) (.slice a3 PL.length c3)).setCell (p:=⟨Y28.heap.size,1,none⟩) (by show W0.heap.size≤Y28.heap.size;omega) (.slice a5 (r.changes.length+1) c5));have kf_:(((Y36.setCell ⟨Y28.heap.size,0,none⟩ (.slice a3 PL.length c3)).setCell ⟨Y28.heap.size,1,none⟩ (.slice a5 (r.changes.length+1) c5)).heap[Y28.heap.size]? = some (.cells #[.slice a3 PL.length c3,.slice a5 (r.changes.length+1) c5] 27 (0,0))):=by
      have h_:=bkS (bkS kh36.out 0 (.slice a3 PL.length c3)) 1 (.slice a5 (r.changes.length+1) c5)
      simpa using h_
     have KF:=Lib.hid kf_;clear kf_;have g0_:=bkC (v:=.slice none 0 0) kh36.out 0 rfl;have g1_:=bkC (v:=.slice none 0 0) kh36.out 1 rfl;have fz:=bkF kh36.out;clear oq iq mq hq hh3 oq2 ov hnin RB NB I3;go_wp2_with fail;go_meet;exact⟨_,a3,c3,a5,c5,_,rfl,KF.out,by omega,by simp only[size_setCell];omega,BF.out,OF.out,IF_.out⟩
   ·refine stepT_mk rfl (fun K hK=>?_)
    go_simp;have hb37:Below Y27.heap.size Y27 (Y27.alloc (.cells #[.slice none 0 0,.slice none 0 0] 27)):=below_alloc _ _;have kk37:=Lib.hid (bkN Y27 #[.slice none 0 0,.slice none 0 0] 27);have zl37:Y27.heap.size+1≤(Y27.alloc (.cells #[.slice none 0 0,.slice none 0 0] 27)).heap.size:=by simp
    refine hK.out _ _ (HKB.out _ (BY27.out.trans (hb37.mono (by omega)))) ?_;clear hK K
    (try simp only[Act.put,List.setIfInBounds_toArray,List.set_cons_zero,List.set_cons_succ])
    generalize (Y27.alloc (.cells #[.slice none 0 0,.slice none 0 0] 27))=Y37 at *;have bs37:Y27.heap.size≤Y37.heap.size:=hb37.size;have BY37:=Lib.hid (BY27.out.trans (hb37.mono (by omega)));have kb37:=Lib.hid (bkB kk27.out hb37 (by omega));clear hb37;refine wpTree_one ?_;refine stepT_mk rfl (fun K hK=>?_);go_simp;refine (made_any r.records ch _ Y37 ((HR0.out.below (BY37.out.mono (by omega))).mono (by omega)) hn0 HRI.out HDEL.out).mono ?_;rw[HPL.out];rintro e Y38 ⟨a3,c3,fp3,rfl,hb38,ho,hi⟩;refine hK.out _ _ (HKB.out _ (BY37.out.trans (hb38.mono (by omega)))) ?_;clear hK K
    (try simp only[Act.put,List.setIfInBounds_toArray,List.set_cons_zero,List.set_cons_succ])
    have O3_38:=Lib.hid ho;have I3:In Y37.heap.size Y38.heap.size fp3:=hi;clear ho hi;have bs38:Y37.heap.size≤Y38.heap.size:=hb38.size;have BY38:=Lib.hid (BY37.out.trans (hb38.mono (by omega)));have kh38:=Lib.hid (bkB kk37.out hb38 (by omega));have kb38:=Lib.hid (bkB kb37.out hb38 (by omega));clear hb38;refine wpTree_one ?_;refine stepT_mk rfl (fun K hK=>?_);go_simp;refine (cloneChange_raw r.changes _ W0.heap.size Y38 ((HR1.out.mono (by omega)).below BY38.out) (by omega) (by omega)).mono ?_;rintro e Y39 ⟨a4,c4,xs,rfl,hb39,how,hx⟩;rw[flat_lits DChange.tr DChange.vs DChange.tr_vs] at hx;obtain rfl:=RdV_vals _ _ hx;clear hx;refine hK.out _ _ (HKB.out _ (BY38.out.trans (hb39.mono (by omega)))) ?_;clear hK K
    (try simp only[Act.put,List.setIfInBounds_toArray,List.set_cons_zero,List.set_cons_succ])
    have RW_39:=Lib.hid how;have RB:∀ b,(Value.slice a4 r.changes.length c4).ownBlock=some b→Y38.heap.size≤b∧b<Y39.heap.size:=fun b hb=>ownsRow_block how hb
    clear how;have bs39:Y38.heap.size≤Y39.heap.size:=hb39.size;have BY39:=Lib.hid (BY38.out.trans (hb39.mono (by omega)));have kh39:=Lib.hid (bkB kh38.out hb39 (by omega));have kb39:=Lib.hid (bkB kb38.out hb39 (by omega));have O3_39:=Lib.hid (O3_38.out.below I3 (by omega) hb39);clear hb39;refine wpTree_one ?_;refine stepT_mk rfl (fun K hK=>?_);have hrd:Reads Y39 Y39.heap.size 4 (some ⟨Y.heap.size,0,none⟩) 1 ch.vs:=⟨rfl,fun _=>⟨⟨Y.heap.size,0,none⟩,rfl,by show Y.heap.size<_;omega,fun j u hu=>by rw[add_mk,Nat.zero_add];exact (cell_of_row' kb39.out j).trans (by simpa [DChange.vs] using hu)⟩⟩
    refine wp_append_any _ (.tmp 13) (.tmp 15) _ rfl Y38.heap.size 44 iC _ 4 56 Tryz.underlying25 hC0 hC1 hC2 hC3 rfl (by omega) (.slice a4 r.changes.length c4) r.changes.length _ rfl RW_39.out Y39.heap.size _ 1 1 ch.vs rfl hrd (fun u hu=>DChange.vs_one [ch] u (by simpa using hu)) (by simp only[maxLen];omega) (by omega) (by omega) ?_;intro v5 Y40 hown hg hat;obtain⟨a5,c5,rfl,_⟩:=ownsRow_slice hown;have hb40:Below W0.heap.size Y39 Y40:=(Below.refl _ _).grown hg (by omega) (fun k hk=>by have:=RB k hk;omega);have bs40:Y39.heap.size≤Y40.heap.size:=hg.size;have kp40:∀ b,b<Y39.heap.size→(Value.slice a4 r.changes.length c4).ownBlock≠some b→Y40.heap[b]? = Y39.heap[b]?:=fun b hb hne=>hg.block b hb (fun e=>hne e.symm)
    have NB:∀ b,(Value.slice a5 (r.changes.length+1) c5).ownBlock=some b→(∃ b0,(Value.slice a4 r.changes.length c4).ownBlock=some b0∧b=b0)∨(b=Y39.heap.size∧b<Y40.heap.size):=fun b hb=>by
     have hlt_:=(ownsRow_block hown hb).2
     rcases hat with e|e
     ·rw[e] at hb;exact Or.inl ⟨b,hb,rfl⟩
     ·rw[e] at hb;injection hb with hb;exact Or.inr ⟨hb.symm,hlt_⟩
    refine hK.out _ _ (HKB.out _ (BY39.out.trans hb40)) ?_;clear hK K hat hg hrd
    (try simp only[Act.put,List.setIfInBounds_toArray,List.set_cons_zero,List.set_cons_succ])
    have RW_40:=Lib.hid hown;clear hown;have kh40:=Lib.hid ((kp40 (Y27.heap.size) (by omega) (fun e=>by have:=RB _ e;omega)).trans kh39.out);have O3_40:=Lib.hid (O3_39.out.frame (fun b hb=>kp40 b (by have:=(I3 b hb).2;omega) (fun e=>by have:=(I3 b hb).2;have:=RB _ e;omega)));have BY40:=Lib.hid (BY39.out.trans hb40);clear hb40 kp40;refine wpTree_read (v:=?_) rfl (fun _ _ _ h=>h) ?_ ?_
    rotate_left
    ·(intro W hSW;(try dsimp only at hSW);(go_simp<;>with_reducible rfl))
    (try simp only[Act.put,List.setIfInBounds_toArray,List.set_cons_zero,List.set_cons_succ])
    refine wpTree_nil ?_;simp only[List.drop_succ_cons,List.drop_zero];obtain⟨fq,oq,iq,mq⟩:=rowOwnB (lo:=W0.heap.size) RW_40.out (by omega) (by omega);have hq:∀ y ∈ fq,Y38.heap.size≤y∧y≠Y27.heap.size:=fun y hy=>by
     rcases NB y (mq y hy) with ⟨b0,e,rfl⟩|⟨rfl,hl_⟩
     ·have:=RB _ e;omega
     ·omega
    have hh3:∀ y ∈ fp3,y≠Y27.heap.size∧y<Y38.heap.size:=fun y hy=>by have:=I3 y hy;omega
    have oq2:Own Y40 (DChange.sT (r.changes++[ch])) (.slice a5 (r.changes.length+1) c5) fq:=by
     rw[DChange.sT_vs,List.flatMap_append]
     simpa using oq
    have ov:OwnV Y40 (DRegister.tr ⟨PL,r.changes++[ch]⟩) [.slice a3 PL.length c3,.slice a5 (r.changes.length+1) c5] (fp3++(fq++[])):=OwnV.cons O3_40.out (OwnV.cons oq2 OwnV.nil (fun x _ hx=>by simp at hx)) (fun y hy h=>by have:=(hh3 y hy).2;have:=(hq y (by simpa using h)).1;omega);have hnin:Y27.heap.size ∉ fp3++(fq++[]):=fun e=>by
     simp only[List.append_nil,List.mem_append] at e
     rcases e with e|e
     ·exact (hh3 _ e).1 rfl
     ·exact (hq _ e).2 rfl
    have OF:=Lib.hid ((ov.setFar (p:=⟨Y27.heap.size,0,none⟩) hnin (.slice a3 PL.length c3)).setFar (p:=⟨Y27.heap.size,1,none⟩) hnin (.slice a5 (r.changes.length+1) c5));have IF_:Hid (In W0.heap.size ((Y40.setCell ⟨Y27.heap.size,0,none⟩ (.slice a3 PL.length c3)).setCell ⟨Y27.heap.size,1,none⟩ (.slice a5 (r.changes.length+1) c5)).heap.size (fp3++(fq++[]))):=fun y hy=>by
     simp only[List.append_nil,List.mem_append] at hy;simp only[size_setCell]
     rcases hy with h|h
     ·have:=I3 y h;omega
     ·exact iq y h
    have BF:=Lib.hid (((BY40.out).setCell (p:=⟨Y27.heap.size,0,none⟩) (by show W0.heap.size≤Y27.heap.size;omega) (.slice a3 PL.length c3)).setCell (p:=⟨Y27.heap.size,1,none⟩) (by show W0.heap.size≤Y27.heap.size;omega) (.slice a5 (r.changes.length+1) c5));have kf_:(((Y40.setCell ⟨Y27.heap.size,0,none⟩ (.slice a3 PL.length c3)).setCell ⟨Y27.heap.size,1,none⟩ (.slice a5 (r.changes.length+1) c5)).heap[Y27.heap.size]? = some (.cells #[.slice a3 PL.length c3,.slice a5 (r.changes.length+1) c5] 27 (0,0))):=by
     have h_:=bkS (bkS kh40.out 0 (.slice a3 PL.length c3)) 1 (.slice a5 (r.changes.length+1) c5)
     simpa using h_
    have KF:=Lib.hid kf_;clear kf_;have g0_:=bkC (v:=.slice none 0 0) kh40.out 0 rfl;have g1_:=bkC (v:=.slice none 0 0) kh40.out 1 rfl;have fz:=bkF kh40.out;clear oq iq mq hq hh3 oq2 ov hnin RB NB I3;go_wp2_with fail;go_meet;exact⟨_,a3,c3,a5,c5,_,rfl,KF.out,by omega,by simp only[size_setCell];omega,BF.out,OF.out,IF_.out⟩
  ·refine stepT_mk rfl (fun K hK=>?_)
   go_simp;have hb41:Below Y.heap.size Y (Y.alloc (.cells #[.slice none 0 0,.slice none 0 0] 27)):=below_alloc _ _;have kk41:=Lib.hid (bkN Y #[.slice none 0 0,.slice none 0 0] 27);have zl41:Y.heap.size+1≤(Y.alloc (.cells #[.slice none 0 0,.slice none 0 0] 27)).heap.size:=by simp
   refine hK.out _ _ (HKB.out _ (BBd.out.trans (hb41.mono (by omega)))) ?_;clear hK K
   (try simp only[Act.put,List.setIfInBounds_toArray,List.set_cons_zero,List.set_cons_succ])
   generalize (Y.alloc (.cells #[.slice none 0 0,.slice none 0 0] 27))=Y41 at *;have bs41:Y.heap.size≤Y41.heap.size:=hb41.size;have BY41:=Lib.hid (BBd.out.trans (hb41.mono (by omega)));clear hb41;refine wpTree_two ?_ ?_
   ·refine stepT_mk rfl (fun K hK=>?_)
    go_simp;refine (made_any r.records ch _ Y41 ((HR0.out.below (BY41.out.mono (by omega))).mono (by omega)) hn0 HRI.out HDEL.out).mono ?_;rw[HPL.out];rintro e Y42 ⟨a3,c3,fp3,rfl,hb42,ho,hi⟩;refine hK.out _ _ (HKB.out _ (BY41.out.trans (hb42.mono (by omega)))) ?_;clear hK K
    (try simp only[Act.put,List.setIfInBounds_toArray,List.set_cons_zero,List.set_cons_succ])
    have O3_42:=Lib.hid ho;have I3:In Y41.heap.size Y42.heap.size fp3:=hi;clear ho hi;have bs42:Y41.heap.size≤Y42.heap.size:=hb42.size;have BY42:=Lib.hid (BY41.out.trans (hb42.mono (by omega)));have kh42:=Lib.hid (bkB kk41.out hb42 (by omega));clear hb42;refine wpTree_two ?_ ?_
    ·refine stepT_mk rfl (fun K hK=>?_)
     go_simp;refine (cloneChange_raw r.changes _ W0.heap.size Y42 ((HR1.out.mono (by omega)).below BY42.out) (by omega) (by omega)).mono ?_;rintro e Y43 ⟨a4,c4,xs,rfl,hb43,how,hx⟩;rw[flat_lits DChange.tr DChange.vs DChange.tr_vs] at hx;obtain rfl:=RdV_vals _ _ hx;clear hx;refine hK.out _ _ (HKB.out _ (BY42.out.trans (hb43.mono (by omega)))) ?_;clear hK K
     (try simp only[Act.put,List.setIfInBounds_toArray,List.set_cons_zero,List.set_cons_succ])
     have RW_43:=Lib.hid how;have RB:∀ b,(Value.slice a4 r.changes.length c4).ownBlock=some b→Y42.heap.size≤b∧b<Y43.heap.size:=fun b hb=>ownsRow_block how hb
     clear how;have bs43:Y42.heap.size≤Y43.heap.size:=hb43.size;have BY43:=Lib.hid (BY42.out.trans (hb43.mono (by omega)));have kh43:=Lib.hid (bkB kh42.out hb43 (by omega));have O3_43:=Lib.hid (O3_42.out.below I3 (by omega) hb43);clear hb43;refine wpTree_one ?_;refine stepT_mk rfl (fun K hK=>?_);go_simp;have hb44:Below Y43.heap.size Y43 (Y43.alloc (.cells #[.int .i64 ch.day,.string ch.key,.string ch.old_,.string ch.new_] 44)):=below_alloc _ _;have kk44:=Lib.hid (bkN Y43 #[.int .i64 ch.day,.string ch.key,.string ch.old_,.string ch.new_] 44);have zl44:Y43.heap.size+1≤(Y43.alloc (.cells #[.int .i64 ch.day,.string ch.key,.string ch.old_,.string ch.new_] 44)).heap.size:=by simp
     refine hK.out _ _ (HKB.out _ (BY43.out.trans (hb44.mono (by omega)))) ?_;clear hK K
     (try simp only[Act.put,List.setIfInBounds_toArray,List.set_cons_zero,List.set_cons_succ])
     generalize (Y43.alloc (.cells #[.int .i64 ch.day,.string ch.key,.string ch.old_,.string ch.new_] 44))=Y44 at *;have bs44:Y43.heap.size≤Y44.heap.size:=hb44.size;have BY44:=Lib.hid (BY43.out.trans (hb44.mono (by omega)));have kh44:=Lib.hid (bkB kh43.out hb44 (by omega));have O3_44:=Lib.hid (O3_43.out.below I3 (by omega) hb44);have RW_44:=Lib.hid (ownsRow_frame RW_43.out (fun g hg=>hb44.block g (by have:=(RB g hg).2;omega)));clear hb44;refine wpTree_one ?_;refine stepT_mk rfl (fun K hK=>?_);have hrd:Reads Y44 Y44.heap.size 4 (some ⟨Y43.heap.size,0,none⟩) 1 ch.vs:=⟨rfl,fun _=>⟨⟨Y43.heap.size,0,none⟩,rfl,by show Y43.heap.size<_;omega,fun j u hu=>by rw[add_mk,Nat.zero_add];exact (cell_of_row' kk44.out j).trans (by simpa [DChange.vs] using hu)⟩⟩
     refine wp_append_any _ (.tmp 13) (.tmp 15) _ rfl Y42.heap.size 44 iC _ 4 56 Tryz.underlying25 hC0 hC1 hC2 hC3 rfl (by omega) (.slice a4 r.changes.length c4) r.changes.length _ rfl RW_44.out Y44.heap.size _ 1 1 ch.vs rfl hrd (fun u hu=>DChange.vs_one [ch] u (by simpa using hu)) (by simp only[maxLen];omega) (by omega) (by omega) ?_;intro v5 Y45 hown hg hat;obtain⟨a5,c5,rfl,_⟩:=ownsRow_slice hown;have hb45:Below W0.heap.size Y44 Y45:=(Below.refl _ _).grown hg (by omega) (fun k hk=>by have:=RB k hk;omega);have bs45:Y44.heap.size≤Y45.heap.size:=hg.size;have kp45:∀ b,b<Y44.heap.size→(Value.slice a4 r.changes.length c4).ownBlock≠some b→Y45.heap[b]? = Y44.heap[b]?:=fun b hb hne=>hg.block b hb (fun e=>hne e.symm)
     have NB:∀ b,(Value.slice a5 (r.changes.length+1) c5).ownBlock=some b→(∃ b0,(Value.slice a4 r.changes.length c4).ownBlock=some b0∧b=b0)∨(b=Y44.heap.size∧b<Y45.heap.size):=fun b hb=>by
      have hlt_:=(ownsRow_block hown hb).2
      rcases hat with e|e
      ·rw[e] at hb;exact Or.inl ⟨b,hb,rfl⟩
      ·rw[e] at hb;injection hb with hb;exact Or.inr ⟨hb.symm,hlt_⟩
     refine hK.out _ _ (HKB.out _ (BY44.out.trans hb45)) ?_;clear hK K hat hg hrd
     (try simp only[Act.put,List.setIfInBounds_toArray,List.set_cons_zero,List.set_cons_succ])
     have RW_45:=Lib.hid hown;clear hown;have kh45:=Lib.hid ((kp45 (Y.heap.size) (by omega) (fun e=>by have:=RB _ e;omega)).trans kh44.out);have O3_45:=Lib.hid (O3_44.out.frame (fun b hb=>kp45 b (by have:=(I3 b hb).2;omega) (fun e=>by have:=(I3 b hb).2;have:=RB _ e;omega)));have BY45:=Lib.hid (BY44.out.trans hb45);clear hb45 kp45;refine wpTree_read (v:=?_) rfl (fun _ _ _ h=>h) ?_ ?_
     rotate_left
     ·(intro W hSW;(try dsimp only at hSW);(go_simp<;>with_reducible rfl))
     (try simp only[Act.put,List.setIfInBounds_toArray,List.set_cons_zero,List.set_cons_succ])
     refine wpTree_nil ?_;simp only[List.drop_succ_cons,List.drop_zero];obtain⟨fq,oq,iq,mq⟩:=rowOwnB (lo:=W0.heap.size) RW_45.out (by omega) (by omega);have hq:∀ y ∈ fq,Y42.heap.size≤y∧y≠Y.heap.size:=fun y hy=>by
      rcases NB y (mq y hy) with ⟨b0,e,rfl⟩|⟨rfl,hl_⟩
      ·have:=RB _ e;omega
      ·omega
     have hh3:∀ y ∈ fp3,y≠Y.heap.size∧y<Y42.heap.size:=fun y hy=>by have:=I3 y hy;omega
     have oq2:Own Y45 (DChange.sT (r.changes++[ch])) (.slice a5 (r.changes.length+1) c5) fq:=by
      rw[DChange.sT_vs,List.flatMap_append]
      simpa using oq
     have ov:OwnV Y45 (DRegister.tr ⟨PL,r.changes++[ch]⟩) [.slice a3 PL.length c3,.slice a5 (r.changes.length+1) c5] (fp3++(fq++[])):=OwnV.cons O3_45.out (OwnV.cons oq2 OwnV.nil (fun x _ hx=>by simp at hx)) (fun y hy h=>by have:=(hh3 y hy).2;have:=(hq y (by simpa using h)).1;omega);have hnin:Y.heap.size ∉ fp3++(fq++[]):=fun e=>by
      simp only[List.append_nil,List.mem_append] at e
      rcases e with e|e
      ·exact (hh3 _ e).1 rfl
      ·exact (hq _ e).2 rfl
     have OF:=Lib.hid ((ov.setFar (p:=⟨Y.heap.size,0,none⟩) hnin (.slice a3 PL.length c3)).setFar (p:=⟨Y.heap.size,1,none⟩) hnin (.slice a5 (r.changes.length+1) c5));have IF_:Hid (In W0.heap.size ((Y45.setCell ⟨Y.heap.size,0,none⟩ (.slice a3 PL.length c3)).setCell ⟨Y.heap.size,1,none⟩ (.slice a5 (r.changes.length+1) c5)).heap.size (fp3++(fq++[]))):=fun y hy=>by
      simp only[List.append_nil,List.mem_append] at hy;simp only[size_setCell]
      rcases hy with h|h
      ·have:=I3 y h;omega
      ·exact iq y h
     have BF:=Lib.hid (((BY45.out).setCell (p:=⟨Y.heap.size,0,none⟩) (by show W0.heap.size≤Y.heap.size;omega) (.slice a3 PL.length c3)).setCell (p:=⟨Y.heap.size,1,none⟩) (by show W0.heap.size≤Y.heap.size;omega) (.slice a5 (r.changes.length+1) c5));have kf_:(((Y45.setCell ⟨Y.heap.size,0,none⟩ (.slice a3 PL.length c3)).setCell ⟨Y.heap.size,1,none⟩ (.slice a5 (r.changes.length+1) c5)).heap[Y.heap.size]? = some (.cells #[.slice a3 PL.length c3,.slice a5 (r.changes.length+1) c5] 27 (0,0))):=by
      have h_:=bkS (bkS kh45.out 0 (.slice a3 PL.length c3)) 1 (.slice a5 (r.changes.length+1) c5)
      simpa using h_
     have KF:=Lib.hid kf_;clear kf_;have g0_:=bkC (v:=.slice none 0 0) kh45.out 0 rfl;have g1_:=bkC (v:=.slice none 0 0) kh45.out 1 rfl;have fz:=bkF kh45.out;clear oq iq mq hq hh3 oq2 ov hnin RB NB I3;go_wp2_with fail;go_meet;exact⟨_,a3,c3,a5,c5,_,rfl,KF.out,by omega,by simp only[size_setCell];omega,BF.out,OF.out,IF_.out⟩
    ·refine stepT_mk rfl (fun K hK=>?_)
     go_simp;have hb46:Below Y42.heap.size Y42 (Y42.alloc (.cells #[.int .i64 ch.day,.string ch.key,.string ch.old_,.string ch.new_] 44)):=below_alloc _ _;have kk46:=Lib.hid (bkN Y42 #[.int .i64 ch.day,.string ch.key,.string ch.old_,.string ch.new_] 44);have zl46:Y42.heap.size+1≤(Y42.alloc (.cells #[.int .i64 ch.day,.string ch.key,.string ch.old_,.string ch.new_] 44)).heap.size:=by simp
     refine hK.out _ _ (HKB.out _ (BY42.out.trans (hb46.mono (by omega)))) ?_;clear hK K
     (try simp only[Act.put,List.setIfInBounds_toArray,List.set_cons_zero,List.set_cons_succ])
     generalize (Y42.alloc (.cells #[.int .i64 ch.day,.string ch.key,.string ch.old_,.string ch.new_] 44))=Y46 at *;have bs46:Y42.heap.size≤Y46.heap.size:=hb46.size;have BY46:=Lib.hid (BY42.out.trans (hb46.mono (by omega)));have kh46:=Lib.hid (bkB kh42.out hb46 (by omega));have O3_46:=Lib.hid (O3_42.out.below I3 (by omega) hb46);clear hb46;refine wpTree_one ?_;refine stepT_mk rfl (fun K hK=>?_);go_simp;refine (cloneChange_raw r.changes _ W0.heap.size Y46 ((HR1.out.mono (by omega)).below BY46.out) (by omega) (by omega)).mono ?_;rintro e Y47 ⟨a4,c4,xs,rfl,hb47,how,hx⟩;rw[flat_lits DChange.tr DChange.vs DChange.tr_vs] at hx;obtain rfl:=RdV_vals _ _ hx;clear hx;refine hK.out _ _ (HKB.out _ (BY46.out.trans (hb47.mono (by omega)))) ?_;clear hK K
     (try simp only[Act.put,List.setIfInBounds_toArray,List.set_cons_zero,List.set_cons_succ])
     have RW_47:=Lib.hid how;have RB:∀ b,(Value.slice a4 r.changes.length c4).ownBlock=some b→Y46.heap.size≤b∧b<Y47.heap.size:=fun b hb=>ownsRow_block how hb
     clear how;have bs47:Y46.heap.size≤Y47.heap.size:=hb47.size;have BY47:=Lib.hid (BY46.out.trans (hb47.mono (by omega)));have kh47:=Lib.hid (bkB kh46.out hb47 (by omega));have kb47:=Lib.hid (bkB kk46.out hb47 (by omega));have O3_47:=Lib.hid (O3_46.out.below I3 (by omega) hb47);clear hb47;refine wpTree_one ?_;refine stepT_mk rfl (fun K hK=>?_);have hrd:Reads Y47 Y47.heap.size 4 (some ⟨Y42.heap.size,0,none⟩) 1 ch.vs:=⟨rfl,fun _=>⟨⟨Y42.heap.size,0,none⟩,rfl,by show Y42.heap.size<_;omega,fun j u hu=>by rw[add_mk,Nat.zero_add];exact (cell_of_row' kb47.out j).trans (by simpa [DChange.vs] using hu)⟩⟩
     refine wp_append_any _ (.tmp 13) (.tmp 15) _ rfl Y46.heap.size 44 iC _ 4 56 Tryz.underlying25 hC0 hC1 hC2 hC3 rfl (by omega) (.slice a4 r.changes.length c4) r.changes.length _ rfl RW_47.out Y47.heap.size _ 1 1 ch.vs rfl hrd (fun u hu=>DChange.vs_one [ch] u (by simpa using hu)) (by simp only[maxLen];omega) (by omega) (by omega) ?_;intro v5 Y48 hown hg hat;obtain⟨a5,c5,rfl,_⟩:=ownsRow_slice hown;have hb48:Below W0.heap.size Y47 Y48:=(Below.refl _ _).grown hg (by omega) (fun k hk=>by have:=RB k hk;omega);have bs48:Y47.heap.size≤Y48.heap.size:=hg.size;have kp48:∀ b,b<Y47.heap.size→(Value.slice a4 r.changes.length c4).ownBlock≠some b→Y48.heap[b]? = Y47.heap[b]?:=fun b hb hne=>hg.block b hb (fun e=>hne e.symm)
     have NB:∀ b,(Value.slice a5 (r.changes.length+1) c5).ownBlock=some b→(∃ b0,(Value.slice a4 r.changes.length c4).ownBlock=some b0∧b=b0)∨(b=Y47.heap.size∧b<Y48.heap.size):=fun b hb=>by
      have hlt_:=(ownsRow_block hown hb).2
      rcases hat with e|e
      ·rw[e] at hb;exact Or.inl ⟨b,hb,rfl⟩
      ·rw[e] at hb;injection hb with hb;exact Or.inr ⟨hb.symm,hlt_⟩
     refine hK.out _ _ (HKB.out _ (BY47.out.trans hb48)) ?_;clear hK K hat hg hrd
     (try simp only[Act.put,List.setIfInBounds_toArray,List.set_cons_zero,List.set_cons_succ])
     have RW_48:=Lib.hid hown;clear hown;have kh48:=Lib.hid ((kp48 (Y.heap.size) (by omega) (fun e=>by have:=RB _ e;omega)).trans kh47.out);have O3_48:=Lib.hid (O3_47.out.frame (fun b hb=>kp48 b (by have:=(I3 b hb).2;omega) (fun e=>by have:=(I3 b hb).2;have:=RB _ e;omega)));have BY48:=Lib.hid (BY47.out.trans hb48);clear hb48 kp48;refine wpTree_read (v:=?_) rfl (fun _ _ _ h=>h) ?_ ?_
     rotate_left
     ·(intro W hSW;(try dsimp only at hSW);(go_simp<;>with_reducible rfl))
     (try simp only[Act.put,List.setIfInBounds_toArray,List.set_cons_zero,List.set_cons_succ])
     refine wpTree_nil ?_;simp only[List.drop_succ_cons,List.drop_zero];obtain⟨fq,oq,iq,mq⟩:=rowOwnB (lo:=W0.heap.size) RW_48.out (by omega) (by omega);have hq:∀ y ∈ fq,Y46.heap.size≤y∧y≠Y.heap.size:=fun y hy=>by
      rcases NB y (mq y hy) with ⟨b0,e,rfl⟩|⟨rfl,hl_⟩
      ·have:=RB _ e;omega
      ·omega
     have hh3:∀ y ∈ fp3,y≠Y.heap.size∧y<Y46.heap.size:=fun y hy=>by have:=I3 y hy;omega
     have oq2:Own Y48 (DChange.sT (r.changes++[ch])) (.slice a5 (r.changes.length+1) c5) fq:=by
      rw[DChange.sT_vs,List.flatMap_append]
      simpa using oq
     have ov:OwnV Y48 (DRegister.tr ⟨PL,r.changes++[ch]⟩) [.slice a3 PL.length c3,.slice a5 (r.changes.length+1) c5] (fp3++(fq++[])):=OwnV.cons O3_48.out (OwnV.cons oq2 OwnV.nil (fun x _ hx=>by simp at hx)) (fun y hy h=>by have:=(hh3 y hy).2;have:=(hq y (by simpa using h)).1;omega);have hnin:Y.heap.size ∉ fp3++(fq++[]):=fun e=>by
      simp only[List.append_nil,List.mem_append] at e
      rcases e with e|e
      ·exact (hh3 _ e).1 rfl
      ·exact (hq _ e).2 rfl
     have OF:=Lib.hid ((ov.setFar (p:=⟨Y.heap.size,0,none⟩) hnin (.slice a3 PL.length c3)).setFar (p:=⟨Y.heap.size,1,none⟩) hnin (.slice a5 (r.changes.length+1) c5));have IF_:Hid (In W0.heap.size ((Y48.setCell ⟨Y.heap.size,0,none⟩ (.slice a3 PL.length c3)).setCell ⟨Y.heap.size,1,none⟩ (.slice a5 (r.changes.length+1) c5)).heap.size (fp3++(fq++[]))):=fun y hy=>by
      simp only[List.append_nil,List.mem_append] at hy;simp only[size_setCell]
      rcases hy with h|h
      ·have:=I3 y h;omega
      ·exact iq y h
     have BF:=Lib.hid (((BY48.out).setCell (p:=⟨Y.heap.size,0,none⟩) (by show W0.heap.size≤Y.heap.size;omega) (.slice a3 PL.length c3)).setCell (p:=⟨Y.heap.size,1,none⟩) (by show W0.heap.size≤Y.heap.size;omega) (.slice a5 (r.changes.length+1) c5));have kf_:(((Y48.setCell ⟨Y.heap.size,0,none⟩ (.slice a3 PL.length c3)).setCell ⟨Y.heap.size,1,none⟩ (.slice a5 (r.changes.length+1) c5)).heap[Y.heap.size]? = some (.cells #[.slice a3 PL.length c3,.slice a5 (r.changes.length+1) c5] 27 (0,0))):=by
      have h_:=bkS (bkS kh48.out 0 (.slice a3 PL.length c3)) 1 (.slice a5 (r.changes.length+1) c5)
      simpa using h_
     have KF:=Lib.hid kf_;clear kf_;have g0_:=bkC (v:=.slice none 0 0) kh48.out 0 rfl;have g1_:=bkC (v:=.slice none 0 0) kh48.out 1 rfl;have fz:=bkF kh48.out;clear oq iq mq hq hh3 oq2 ov hnin RB NB I3;go_wp2_with fail;go_meet;exact⟨_,a3,c3,a5,c5,_,rfl,KF.out,by omega,by simp only[size_setCell];omega,BF.out,OF.out,IF_.out⟩
   ·refine stepT_mk rfl (fun K hK=>?_)
    go_simp;have hb49:Below Y41.heap.size Y41 (Y41.alloc (.cells #[.int .i64 ch.day,.string ch.key,.string ch.old_,.string ch.new_] 44)):=below_alloc _ _;have kk49:=Lib.hid (bkN Y41 #[.int .i64 ch.day,.string ch.key,.string ch.old_,.string ch.new_] 44);have zl49:Y41.heap.size+1≤(Y41.alloc (.cells #[.int .i64 ch.day,.string ch.key,.string ch.old_,.string ch.new_] 44)).heap.size:=by simp
    refine hK.out _ _ (HKB.out _ (BY41.out.trans (hb49.mono (by omega)))) ?_;clear hK K
    (try simp only[Act.put,List.setIfInBounds_toArray,List.set_cons_zero,List.set_cons_succ])
    generalize (Y41.alloc (.cells #[.int .i64 ch.day,.string ch.key,.string ch.old_,.string ch.new_] 44))=Y49 at *;have bs49:Y41.heap.size≤Y49.heap.size:=hb49.size;have BY49:=Lib.hid (BY41.out.trans (hb49.mono (by omega)));have kh49:=Lib.hid (bkB kk41.out hb49 (by omega));clear hb49;refine wpTree_one ?_;refine stepT_mk rfl (fun K hK=>?_);go_simp;refine (made_any r.records ch _ Y49 ((HR0.out.below (BY49.out.mono (by omega))).mono (by omega)) hn0 HRI.out HDEL.out).mono ?_;rw[HPL.out];rintro e Y50 ⟨a3,c3,fp3,rfl,hb50,ho,hi⟩;refine hK.out _ _ (HKB.out _ (BY49.out.trans (hb50.mono (by omega)))) ?_;clear hK K
    (try simp only[Act.put,List.setIfInBounds_toArray,List.set_cons_zero,List.set_cons_succ])
    have O3_50:=Lib.hid ho;have I3:In Y49.heap.size Y50.heap.size fp3:=hi;clear ho hi;have bs50:Y49.heap.size≤Y50.heap.size:=hb50.size;have BY50:=Lib.hid (BY49.out.trans (hb50.mono (by omega)));have kh50:=Lib.hid (bkB kh49.out hb50 (by omega));have kb50:=Lib.hid (bkB kk49.out hb50 (by omega));clear hb50;refine wpTree_one ?_;refine stepT_mk rfl (fun K hK=>?_);go_simp;refine (cloneChange_raw r.changes _ W0.heap.size Y50 ((HR1.out.mono (by omega)).below BY50.out) (by omega) (by omega)).mono ?_;rintro e Y51 ⟨a4,c4,xs,rfl,hb51,how,hx⟩;rw[flat_lits DChange.tr DChange.vs DChange.tr_vs] at hx;obtain rfl:=RdV_vals _ _ hx;clear hx;refine hK.out _ _ (HKB.out _ (BY50.out.trans (hb51.mono (by omega)))) ?_;clear hK K
    (try simp only[Act.put,List.setIfInBounds_toArray,List.set_cons_zero,List.set_cons_succ])
    have RW_51:=Lib.hid how;have RB:∀ b,(Value.slice a4 r.changes.length c4).ownBlock=some b→Y50.heap.size≤b∧b<Y51.heap.size:=fun b hb=>ownsRow_block how hb
    clear how;have bs51:Y50.heap.size≤Y51.heap.size:=hb51.size;have BY51:=Lib.hid (BY50.out.trans (hb51.mono (by omega)));have kh51:=Lib.hid (bkB kh50.out hb51 (by omega));have kb51:=Lib.hid (bkB kb50.out hb51 (by omega));have O3_51:=Lib.hid (O3_50.out.below I3 (by omega) hb51);clear hb51;refine wpTree_one ?_;refine stepT_mk rfl (fun K hK=>?_);have hrd:Reads Y51 Y51.heap.size 4 (some ⟨Y41.heap.size,0,none⟩) 1 ch.vs:=⟨rfl,fun _=>⟨⟨Y41.heap.size,0,none⟩,rfl,by show Y41.heap.size<_;omega,fun j u hu=>by rw[add_mk,Nat.zero_add];exact (cell_of_row' kb51.out j).trans (by simpa [DChange.vs] using hu)⟩⟩
    refine wp_append_any _ (.tmp 13) (.tmp 15) _ rfl Y50.heap.size 44 iC _ 4 56 Tryz.underlying25 hC0 hC1 hC2 hC3 rfl (by omega) (.slice a4 r.changes.length c4) r.changes.length _ rfl RW_51.out Y51.heap.size _ 1 1 ch.vs rfl hrd (fun u hu=>DChange.vs_one [ch] u (by simpa using hu)) (by simp only[maxLen];omega) (by omega) (by omega) ?_;intro v5 Y52 hown hg hat;obtain⟨a5,c5,rfl,_⟩:=ownsRow_slice hown;have hb52:Below W0.heap.size Y51 Y52:=(Below.refl _ _).grown hg (by omega) (fun k hk=>by have:=RB k hk;omega);have bs52:Y51.heap.size≤Y52.heap.size:=hg.size;have kp52:∀ b,b<Y51.heap.size→(Value.slice a4 r.changes.length c4).ownBlock≠some b→Y52.heap[b]? = Y51.heap[b]?:=fun b hb hne=>hg.block b hb (fun e=>hne e.symm)
    have NB:∀ b,(Value.slice a5 (r.changes.length+1) c5).ownBlock=some b→(∃ b0,(Value.slice a4 r.changes.length c4).ownBlock=some b0∧b=b0)∨(b=Y51.heap.size∧b<Y52.heap.size):=fun b hb=>by
     have hlt_:=(ownsRow_block hown hb).2
     rcases hat with e|e
     ·rw[e] at hb;exact Or.inl ⟨b,hb,rfl⟩
     ·rw[e] at hb;injection hb with hb;exact Or.inr ⟨hb.symm,hlt_⟩
    refine hK.out _ _ (HKB.out _ (BY51.out.trans hb52)) ?_;clear hK K hat hg hrd
    (try simp only[Act.put,List.setIfInBounds_toArray,List.set_cons_zero,List.set_cons_succ])
    have RW_52:=Lib.hid hown;clear hown;have kh52:=Lib.hid ((kp52 (Y.heap.size) (by omega) (fun e=>by have:=RB _ e;omega)).trans kh51.out);have O3_52:=Lib.hid (O3_51.out.frame (fun b hb=>kp52 b (by have:=(I3 b hb).2;omega) (fun e=>by have:=(I3 b hb).2;have:=RB _ e;omega)));have BY52:=Lib.hid (BY51.out.trans hb52);clear hb52 kp52;refine wpTree_read (v:=?_) rfl (fun _ _ _ h=>h) ?_ ?_
    rotate_left
    ·(intro W hSW;(try dsimp only at hSW);(go_simp<;>with_reducible rfl))
    (try simp only[Act.put,List.setIfInBounds_toArray,List.set_cons_zero,List.set_cons_succ])
    refine wpTree_nil ?_;simp only[List.drop_succ_cons,List.drop_zero];obtain⟨fq,oq,iq,mq⟩:=rowOwnB (lo:=W0.heap.size) RW_52.out (by omega) (by omega);have hq:∀ y ∈ fq,Y50.heap.size≤y∧y≠Y.heap.size:=fun y hy=>by
     rcases NB y (mq y hy) with ⟨b0,e,rfl⟩|⟨rfl,hl_⟩
     ·have:=RB _ e;omega
     ·omega
    have hh3:∀ y ∈ fp3,y≠Y.heap.size∧y<Y50.heap.size:=fun y hy=>by have:=I3 y hy;omega
    have oq2:Own Y52 (DChange.sT (r.changes++[ch])) (.slice a5 (r.changes.length+1) c5) fq:=by
     rw[DChange.sT_vs,List.flatMap_append]
     simpa using oq
    have ov:OwnV Y52 (DRegister.tr ⟨PL,r.changes++[ch]⟩) [.slice a3 PL.length c3,.slice a5 (r.changes.length+1) c5] (fp3++(fq++[])):=OwnV.cons O3_52.out (OwnV.cons oq2 OwnV.nil (fun x _ hx=>by simp at hx)) (fun y hy h=>by have:=(hh3 y hy).2;have:=(hq y (by simpa using h)).1;omega);have hnin:Y.heap.size ∉ fp3++(fq++[]):=fun e=>by
     simp only[List.append_nil,List.mem_append] at e
     rcases e with e|e
     ·exact (hh3 _ e).1 rfl
     ·exact (hq _ e).2 rfl
    have OF:=Lib.hid ((ov.setFar (p:=⟨Y.heap.size,0,none⟩) hnin (.slice a3 PL.length c3)).setFar (p:=⟨Y.heap.size,1,none⟩) hnin (.slice a5 (r.changes.length+1) c5));have IF_:Hid (In W0.heap.size ((Y52.setCell ⟨Y.heap.size,0,none⟩ (.slice a3 PL.length c3)).setCell ⟨Y.heap.size,1,none⟩ (.slice a5 (r.changes.length+1) c5)).heap.size (fp3++(fq++[]))):=fun y hy=>by
     simp only[List.append_nil,List.mem_append] at hy;simp only[size_setCell]
     rcases hy with h|h
     ·have:=I3 y h;omega
     ·exact iq y h
    have BF:=Lib.hid (((BY52.out).setCell (p:=⟨Y.heap.size,0,none⟩) (by show W0.heap.size≤Y.heap.size;omega) (.slice a3 PL.length c3)).setCell (p:=⟨Y.heap.size,1,none⟩) (by show W0.heap.size≤Y.heap.size;omega) (.slice a5 (r.changes.length+1) c5));have kf_:(((Y52.setCell ⟨Y.heap.size,0,none⟩ (.slice a3 PL.length c3)).setCell ⟨Y.heap.size,1,none⟩ (.slice a5 (r.changes.length+1) c5)).heap[Y.heap.size]? = some (.cells #[.slice a3 PL.length c3,.slice a5 (r.changes.length+1) c5] 27 (0,0))):=by
     have h_:=bkS (bkS kh52.out 0 (.slice a3 PL.length c3)) 1 (.slice a5 (r.changes.length+1) c5)
     simpa using h_
    have KF:=Lib.hid kf_;clear kf_;have g0_:=bkC (v:=.slice none 0 0) kh52.out 0 rfl;have g1_:=bkC (v:=.slice none 0 0) kh52.out 1 rfl;have fz:=bkF kh52.out;clear oq iq mq hq hh3 oq2 ov hnin RB NB I3;go_wp2_with fail;go_meet;exact⟨_,a3,c3,a5,c5,_,rfl,KF.out,by omega,by simp only[size_setCell];omega,BF.out,OF.out,IF_.out⟩
 obtain⟨hb,a3,c3,a4,c4,fp,rfl,kh,hlo,hhi,hbW,ov,iv⟩:=hcut;generalize wc=w2 at *;have BY:=Lib.hid (BB_0.out.trans (hbW.mono (by omega)));have KH:=Lib.hid kh;have OV:=Lib.hid ov;have IV:Hid (In w.heap.size w2.heap.size fp):=iv.mono (by omega) (Nat.le_refl _);have KO:=Lib.hid ((hbW.block _ (show w.heap.size+2<W0.heap.size by omega)).trans KO_0.out);have INE:=Lib.hid (fun (e:w.heap.size+2 ∈ fp)=>(by have:=iv _ e;omega:False));clear kh ov iv hbW HKB BBd KR_0 KC_0 KO_0 HR0 HR1;have f0:=bkC (v:=.slice a3 PL.length c3) KH.out 0 rfl;have f1:=bkC (v:=.slice a4 (r.changes.length+1) c4) KH.out 1 rfl;have g0:=bkC (v:=.slice none 0 0) KO.out 0 rfl;have g1:=bkC (v:=.slice none 0 0) KO.out 1 rfl;have zO:=bkF KO.out;have hneO:hb≠w.heap.size+2:=by omega
 by_cases d1:32<PL.length
 case pos =>
  have HE:Hid (withR r ch=(⟨[],[]⟩,5)):=by show _=_;unfold withR;rw[HPL.out,if_pos d1]
  have d2:(32:Int)<(PL.length:Int):=by omega
  go_wp2;refine bodyPost_ret (v:=.tuple #[.agg #[.slice none 0 0,.slice none 0 0],.int .i64 5]) (by simp[results,Tryz.results22,go_sem, *]) rfl ?_;exact NewR.zero HE.out rfl (((BY.out).setCell (p:=⟨w.heap.size+2,0,none⟩) (by show w.heap.size≤w.heap.size+2;omega) _).setCell (p:=⟨w.heap.size+2,1,none⟩) (by show w.heap.size≤w.heap.size+2;omega) _)
 have d2:(PL.length:Int)≤32:=by omega
 by_cases d3:48<r.changes.length+1
 case pos =>
  have HE:Hid (withR r ch=(⟨[],[]⟩,5)):=by show _=_;unfold withR;rw[HPL.out,if_neg d1,if_pos d3]
  have d4:(48:Int)<(r.changes.length:Int)+1:=by omega
  go_wp2;refine bodyPost_ret (v:=.tuple #[.agg #[.slice none 0 0,.slice none 0 0],.int .i64 5]) (by simp[results,Tryz.results22,go_sem, *]) rfl ?_;exact NewR.zero HE.out rfl (((BY.out).setCell (p:=⟨w.heap.size+2,0,none⟩) (by show w.heap.size≤w.heap.size+2;omega) _).setCell (p:=⟨w.heap.size+2,1,none⟩) (by show w.heap.size≤w.heap.size+2;omega) _)
 have HE:Hid (withR r ch=(⟨PL,r.changes++[ch]⟩,0)):=by show _=_;unfold withR wReg;rw[HPL.out,if_neg d1,if_neg d3]
 have d4:(r.changes.length:Int)+1≤48:=by omega
 go_wp2;refine bodyPost_ret (v:=.tuple #[.agg #[.slice a3 PL.length c3,.slice a4 (r.changes.length+1) c4],.int .i64 0]) (by simp[results,Tryz.results22,go_sem, *]) rfl ?_;rw[HE.out];unfold NewR;simp only[List.length_append,List.length_cons,List.length_nil,Nat.zero_add];exact⟨a3,c3,a4,c4,fp,rfl,(((BY.out).setCell (p:=⟨w.heap.size+2,0,none⟩) (by show w.heap.size≤w.heap.size+2;omega) _).setCell (p:=⟨w.heap.size+2,1,none⟩) (by show w.heap.size≤w.heap.size+2;omega) _),(OV.out.setFar (p:=⟨w.heap.size+2,0,none⟩) INE.out _).setFar (p:=⟨w.heap.size+2,1,none⟩) INE.out _,by simp only[size_setCell];exact IV.out⟩
end Go.Proofs.YtmkkiglcpedkiaaGreatDoor
