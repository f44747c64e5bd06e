/- Contracts: slices.Delete of one element of a slice of structs of one's own. Conditions: bounded lengths, an index within. -/
import Derived.Test.YtmkkiglcpedkiaaGreatDoorVs
import Derived.Test.YtmkkiglcpedkiaaGreatDoorTree
import Derived.Deep.DeepCutAuto
set_option linter.unusedVariables false
set_option linter.unusedSimpArgs false
namespace Go.Proofs.YtmkkiglcpedkiaaGreatDoor
open Go.RowKit
set_option maxHeartbeats 2000000
set_option maxRecDepth 100000
theorem deleteRecord_any (l:List DRecord) (i:Nat) (a:Option Addr) (c:Nat) (fp:List Nat) (w:World) (h:Own w (DRecord.sT l) (.slice a l.length c) fp) (hi:i<l.length) (hn:l.length≤1048576) :
  Calls Tryz.prog 75 #[.slice a l.length c,.int .i64 (i:Int),.int .i64 ((i:Int)+1)] w fun e w'=>∃ fp',e=.returned (.slice a (l.length-1) c)∧Chg fp w w'∧Own w' (DRecord.sT (l.eraseIdx i)) (.slice a (l.length-1) c) fp'∧∀ y ∈ fp',y ∈ fp:=by
 obtain⟨ti,hti,-,hts,-⟩:=info_parts infoRecord;rw[DRecord.sT_vs] at h;obtain⟨hxl,hnc,hcm,hrow⟩:=h.rowV;have hxl2:=hxl;obtain⟨b,off,ea,efp,row⟩:=hrow (fun e=>by rw[e] at hxl;simp at hxl;omega);subst ea efp;clear hrow h;have HO:=Lib.hid (DRecord.vs_one l);have HE:=Lib.hid (erase_flatv DRecord.vs 2 DRecord.vs_len l i);obtain⟨m,hm⟩:∃ m,l.length=m+1:=⟨l.length-1,by omega⟩
 have hel:(l.eraseIdx i).length=m:=by rw[List.length_eraseIdx,if_pos hi,hm];rfl
 have HFL:=Lib.hid (flatv_length DRecord.vs 2 DRecord.vs_len (l.eraseIdx i));rw[hel] at HFL;rw[DRecord.sT_vs,HE.out];rw[HE.out] at HFL;rw[hm] at hxl hi hn hnc ⊢;clear hm hxl2 hel HE;generalize l.flatMap DRecord.vs=xs at *;clear l;unfold maxLen at hcm;rw[Nat.add_sub_cancel];have HXL:=Lib.hid hxl;clear hxl;have HR:=Lib.hid row;clear row;have hap:∀ (ty:TypeId) (ad:Addr),(¬ c=i+1→ad=⟨b,off+(i+1)*2,none⟩)→(Builtin.append_ #[24,24] ty #[.slice (some ⟨b,off,none⟩) i c,.slice (some ad) (m-i) (c-(i+1))]).run Tryz.prog w.drew=.ok (.slice (some ⟨b,off,none⟩) m c) (w.drew.setCells b (off+i*2) (xs.drop ((i+1)*2))):=by
  intro ty ad had;have hl:(xs.drop ((i+1)*2)).length=(m-i)*2:=by rw[List.length_drop,HXL.out];omega
  have hz:=run_append_room_cells (P:=Tryz.prog) w.drew 24 ty 69 ti Tryz.underlying24 hti b off i c ad (m-i) (c-(i+1)) (xs.drop ((i+1)*2)) (by rw[hts];exact hl) (fun j u hu=>?_) (oneLits xs HO.out _) (by omega) ?_ ?_
  ·rw[hts,show i+(m-i)=m by omega] at hz
   exact hz
  ·have hj:=(List.getElem?_eq_some_iff.1 hu).1
   rw[had (by omega),add_mk];exact (HR.out.drop ((i+1)*2)).drew.cell j u hu
  ·intro j hj
   rw[hts,Nat.add_assoc];exact HR.out.drew.some_ _ (by rw[HXL.out];omega)
  ·intro j hj
   exact HR.out.drew.free _
 have HAP:=Lib.hid hap;clear hap;have r2:RowV (w.drew.setCells b (off+i*2) (xs.drop ((i+1)*2))) b off (xs.take (i*2)++xs.drop ((i+1)*2)):=HR.out.drew.set (i*2) (by rw[List.length_drop,HXL.out];omega);have hcl:∀ ty:TypeId,(Builtin.clear_ #[24] ty #[.slice (some ⟨b,off+m*2,none⟩) 1 (c-m)]).run Tryz.prog (w.drew.setCells b (off+i*2) (xs.drop ((i+1)*2)))=.ok (.tuple #[]) ((w.drew.setCells b (off+i*2) (xs.drop ((i+1)*2))).setCells b (off+m*2) [.string ⟨#[]⟩,.string ⟨#[]⟩]):=fun ty =>
  run_clear_one _ 24 69 ty (.agg #[.string ⟨#[]⟩,.string ⟨#[]⟩]) [.string ⟨#[]⟩,.string ⟨#[]⟩] Tryz.underlying24 (fun _=>by kernel_rfl) rfl (fun u hu=>by simp only[List.mem_cons,List.not_mem_nil,or_false] at hu;rcases hu with rfl|rfl<;>rfl) b _ _
   (fun j hj=>by rw[Nat.add_assoc];exact World.isSome_setCellsV b _ _ _ _ (HR.out.drew.some_ _ (by rw[HXL.out];simp at hj;omega))) (fun j hj=>r2.free _)
 have HF:Hid (∃ fp',Own ((w.drew.setCells b (off+i*2) (xs.drop ((i+1)*2))).setCells b (off+m*2) [.string ⟨#[]⟩,.string ⟨#[]⟩]) (.sl 2 ((xs.take (i*2)++xs.drop ((i+1)*2)).map .lit)) (.slice (some ⟨b,off,none⟩) m c) fp'∧∀ y ∈ fp',y=b) :=
  (r2.behind (ys:=[.string ⟨#[]⟩,.string ⟨#[]⟩]) (m*2) (by rw[HFL.out];omega)).own (k:=2) (by rw[HFL.out]) (by omega) (by unfold maxLen;omega)
 clear r2;have i1:(i:Int)+1≤(m:Int)+1:=by omega
 have i2:(m:Int)+1≤(c:Int):=by omega
 have i3:(i:Int)≤(m:Int):=by omega
 have i4:((i:Int) == (i:Int)+1)=false:=by simp<;>omega
 have i6:(i:Int)≤(i:Int)+1:=by omega
 have i7:(0:Int)≤(i:Int)+1:=by omega
 have i8:i≤c:=by omega
 have i5:¬ c=m:=by omega
 by_cases hce:c=i+1
 ·have hap:=fun ty=>HAP.out ty ⟨b,off,none⟩ (fun e=>absurd hce e)
  subst hce;obtain rfl:m=i:=by omega
  simp only[Nat.sub_self] at hap;simp only[Nat.add_sub_cancel_left] at hcl;go_enter Tryz.func75,Tryz.ntmps75;go_upto_region 5 with (fail);refine wp_region_ord 6 [(0,true),(1,true),(2,true),(3,true),(4,true),(5,true)] (fun W=>True) (by kernel_rfl) (by kernel_rfl) trivial (fun hHeld=>?_);refine wpOrd_read (v:=?_) rfl (fun _ _ _ h=>h) ?_ ?_
  rotate_left
  ·(intro W hSW;(try dsimp only at hSW);(go_simp<;>with_reducible rfl))
  (try simp only[Act.put,List.setIfInBounds_toArray,List.set_cons_zero,List.set_cons_succ])
  refine wpOrd_read (v:=?_) rfl (fun _ _ _ h=>h) ?_ ?_
  rotate_left
  ·(intro W hSW;(try dsimp only at hSW);(go_simp<;>with_reducible rfl))
  (try simp only[Act.put,List.setIfInBounds_toArray,List.set_cons_zero,List.set_cons_succ])
  refine wpOrd_read (v:=?_) rfl (fun _ _ _ h=>h) ?_ ?_
  rotate_left
  ·(intro W hSW;(try dsimp only at hSW);(go_simp<;>with_reducible rfl))
  (try simp only[Act.put,List.setIfInBounds_toArray,List.set_cons_zero,List.set_cons_succ])
  refine wpOrd_read (v:=?_) rfl (fun _ _ _ h=>h) ?_ ?_
  rotate_left
  ·(intro W hSW;(try dsimp only at hSW);(go_simp<;>with_reducible rfl))
  (try simp only[Act.put,List.setIfInBounds_toArray,List.set_cons_zero,List.set_cons_succ])
  refine wpOrd_read (v:=?_) rfl (fun _ _ _ h=>h) ?_ ?_
  rotate_left
  ·(intro W hSW;(try dsimp only at hSW);(go_simp<;>with_reducible rfl))
  (try simp only[Act.put,List.setIfInBounds_toArray,List.set_cons_zero,List.set_cons_succ])
  refine wpOrd_read (v:=?_) rfl (fun _ _ _ h=>h) ?_ ?_
  rotate_left
  ·(intro W hSW;(try dsimp only at hSW);(go_simp<;>with_reducible rfl))
  (try simp only[Act.put,List.setIfInBounds_toArray,List.set_cons_zero,List.set_cons_succ])
  refine wpOrd_nil ?_;simp only[List.drop_succ_cons,List.drop_zero];refine wpList_append_run rfl (.tmp 22) (.tmp 25) _ _ rfl rfl rfl (hap _) ?_;clear hap HAP;generalize hY:w.drew.setCells b (off+m*2) (xs.drop ((m+1)*2))=Y at *;have HY:=Lib.hid hY;clear hY;go_wp2;go_ret;rw[← HY.out] at HF ⊢;obtain⟨fp2,h1,h2⟩:=HF.out;exact⟨fp2,rfl,chg_setCellsV (chg_setCellsV (Chg.refl _ _).drew (by simp) _ _) (by simp) _ _,h1,fun y hy=>by simp[h2 y hy]⟩
 ·have hap:=fun ty=>HAP.out ty ⟨b,off+(i+1)*2,none⟩ (fun _=>rfl)
  go_enter Tryz.func75,Tryz.ntmps75;go_upto_region 5 with (fail);refine wp_region_ord 6 [(0,true),(1,true),(2,true),(3,true),(4,true),(5,true)] (fun W=>True) (by kernel_rfl) (by kernel_rfl) trivial (fun hHeld=>?_);refine wpOrd_read (v:=?_) rfl (fun _ _ _ h=>h) ?_ ?_
  rotate_left
  ·(intro W hSW;(try dsimp only at hSW);(go_simp<;>with_reducible rfl))
  (try simp only[Act.put,List.setIfInBounds_toArray,List.set_cons_zero,List.set_cons_succ])
  refine wpOrd_read (v:=?_) rfl (fun _ _ _ h=>h) ?_ ?_
  rotate_left
  ·(intro W hSW;(try dsimp only at hSW);(go_simp<;>with_reducible rfl))
  (try simp only[Act.put,List.setIfInBounds_toArray,List.set_cons_zero,List.set_cons_succ])
  refine wpOrd_read (v:=?_) rfl (fun _ _ _ h=>h) ?_ ?_
  rotate_left
  ·(intro W hSW;(try dsimp only at hSW);(go_simp<;>with_reducible rfl))
  (try simp only[Act.put,List.setIfInBounds_toArray,List.set_cons_zero,List.set_cons_succ])
  refine wpOrd_read (v:=?_) rfl (fun _ _ _ h=>h) ?_ ?_
  rotate_left
  ·(intro W hSW;(try dsimp only at hSW);(go_simp<;>with_reducible rfl))
  (try simp only[Act.put,List.setIfInBounds_toArray,List.set_cons_zero,List.set_cons_succ])
  refine wpOrd_read (v:=?_) rfl (fun _ _ _ h=>h) ?_ ?_
  rotate_left
  ·(intro W hSW;(try dsimp only at hSW);(go_simp<;>with_reducible rfl))
  (try simp only[Act.put,List.setIfInBounds_toArray,List.set_cons_zero,List.set_cons_succ])
  refine wpOrd_read (v:=?_) rfl (fun _ _ _ h=>h) ?_ ?_
  rotate_left
  ·(intro W hSW;(try dsimp only at hSW);(go_simp<;>with_reducible rfl))
  (try simp only[Act.put,List.setIfInBounds_toArray,List.set_cons_zero,List.set_cons_succ])
  refine wpOrd_nil ?_;simp only[List.drop_succ_cons,List.drop_zero];refine wpList_append_run rfl (.tmp 22) (.tmp 25) _ _ rfl rfl rfl (hap _) ?_;clear hap HAP;generalize hY:w.drew.setCells b (off+i*2) (xs.drop ((i+1)*2))=Y at *;have HY:=Lib.hid hY;clear hY;go_wp2;go_ret;rw[← HY.out] at HF ⊢;obtain⟨fp2,h1,h2⟩:=HF.out;exact⟨fp2,rfl,chg_setCellsV (chg_setCellsV (Chg.refl _ _).drew (by simp) _ _) (by simp) _ _,h1,fun y hy=>by simp[h2 y hy]⟩
end Go.Proofs.YtmkkiglcpedkiaaGreatDoor
