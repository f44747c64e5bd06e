/- Contracts: LevelsAt, for the program and for the reference. Conditions: bounded sizes; what the tables hold. -/
import Derived.Test.YtdgmgchdjlfchaaGreatDoorLwD
set_option linter.unusedVariables false
set_option linter.unusedSimpArgs false
namespace Go.Proofs.YtdgmgchdjlfchaaGreatDoor
open Go.RowKit
set_option maxHeartbeats 16000000
set_option maxRecDepth 100000
def levsAtR (t:DTerrain) (n:DNetwork) (f:Int) (e:DEnd):List Int × Int :=
 if terrB t=true∧netB n=true∧endB e=true then
  (if inB f 1 100000000=true∧inTerr t e.place=true then
   (if reachA t n e=true then (rowL t n f e,0) else ([],6))
  else ([],2)) else ([],1)
theorem levRows_one (t:DTerrain) (n:DNetwork) (f:Int) (e:DEnd):levRowsR t n f [e]=if (levsAtR t n f e).2=0 then ([(levsAtR t n f e).1],0) else ([],(levsAtR t n f e).2):=by
 unfold levRowsR levsAtR;simp only[List.all_cons,List.all_nil,Bool.and_true,List.length_cons,List.length_nil,List.map_cons,List.map_nil]
 by_cases h1:terrB t=true∧netB n=true∧endB e=true
 ·rw[if_pos h1,if_pos h1]
  by_cases h2:inB f 1 100000000=true∧inTerr t e.place=true
  ·rw[if_pos ⟨h2.1,by omega,h2.2⟩,if_pos h2]
   by_cases h3:reachA t n e=true
   ·rw[if_pos h3,if_pos h3];rfl
   ·rw[if_neg h3,if_neg h3];rfl
  ·rw[if_neg (fun h=>h2 ⟨h.1,h.2.2⟩),if_neg h2];rfl
 ·rw[if_neg h1,if_neg h1];rfl
theorem levs_bad {t:DTerrain} {n:DNetwork} {f:Int} {e:DEnd} (h:(levsAtR t n f e).2≠0):(levsAtR t n f e).1 = []:=by
 unfold levsAtR at *
 split
 ·rename_i h1
  rw[if_pos h1] at h
  split
  ·rename_i h2
   rw[if_pos h2] at h
   split
   ·rename_i h3
    rw[if_pos h3] at h;exact absurd rfl h
   ·rfl
  ·rfl
 ·rfl
theorem rd_end1 {B:Nat} {W:World} {q:DEnd} {b:Nat} (h0:W.cell? ⟨b,0,none⟩=some (.int .i64 q.place.x)) (h1:W.cell? ⟨b,1,none⟩=some (.int .i64 q.place.y)) (h2:W.cell? ⟨b,2,none⟩=some (.int .i64 q.above)) (hb:b<B):Rd B W (DEnd.sT [q]) (.slice (some ⟨b,0,none⟩) 1 1):=by
 refine⟨[b],Rep_sl.2 ⟨_,1,1,rfl,by simp[DEnd.tr],Nat.le_refl _,by unfold maxLen;omega,Or.inr ⟨b,0,[],by simp[DEnd.tr],rfl,rfl,?_⟩⟩,fun x hx=>by simp at hx;omega⟩;show Reps W ([Value.int .i64 q.place.x,.int .i64 q.place.y,.int .i64 q.above].map Tr.lit) b 0 []
 refine Reps.lits _ _ _ (fun j hj=>?_)
 match j,hj with
 | 0,_=>exact h0
 | 1,_=>exact h1
 | 2,_=>exact h2
theorem own_row1 {w:World} {row:List Int} {a:Option Addr} {c:Nat} {fp:List Nat} (h:Own w (intssT [row]) (.slice a 1 c) fp):∃ b off a2 c2 f,a=some ⟨b,off,none⟩∧w.cell? ⟨b,off,none⟩=some (.slice a2 row.length c2)∧Own w (intsT row) (.slice a2 row.length c2) f∧∀ x ∈ f,x ∈ fp:=by
 obtain⟨hr,hn,hf⟩:=h;obtain⟨a',n',c',he,hl,_,_,hc⟩:=Rep_sl.1 hr;injection he with e1 e2 e3;subst e1 e2 e3
 rcases hc with ⟨h1,_⟩|⟨b,off,g,_,hb,hfp,hreps⟩
 ·simp at h1
 ·obtain⟨v,f1,g1,hv,h1,h2,h3⟩:=Reps_cons.1 hreps
  have hg:=Reps_nil.1 h2;subst hg h3 hfp;obtain⟨a2,n2,c2,ev,hl2,hx⟩:=Rep_sl.1 h1;rw[List.length_map,Nat.mul_one] at hl2;subst ev hl2;rw[List.append_nil] at hn hf;exact⟨b,off,a2,c2,f1,hb,hv,⟨h1,(List.nodup_cons.1 hn).2,fun x hx=>hf x (List.mem_cons_of_mem _ hx)⟩,fun x hx=>by simp[hx]⟩
theorem iLevelsAt_std (t:DTerrain) (nw:DNetwork) (f:Int) (q:DEnd) (vt3 vt4 vnw0 vnw1 vnw2 vnw3:Value) (w:World) (L:TabW w) (rt3:Rd w.heap.size w (intsT t.heights) vt3) (rt4:Rd w.heap.size w (intsT t.clutter) vt4) (rnw0:Rd w.heap.size w (DSite.sT nw.sites) vnw0) (rnw1:Rd w.heap.size w (DSector.sT nw.sectors) vnw1) (rnw2:Rd w.heap.size w (DAntenna.sT nw.antennas) vnw2) (rnw3:Rd w.heap.size w (DRadio.sT nw.radios) vnw3) (hs_t:sizL t.tr≤1048576) (hk_t:t.ok) (hs_nw:sizL nw.tr≤1048576) (hk_nw:nw.ok) (hk_f:I64 f) (hk_q:q.ok) :
  Calls Tryz.prog 17 #[.agg #[.int .i64 t.step,.int .i64 t.width,.int .i64 t.height,vt3,vt4],.agg #[vnw0,vnw1,vnw2,vnw3],.int .i64 f,.agg #[.int .i64 q.place.x,.int .i64 q.place.y,.int .i64 q.above]] w (fun e w'=>∃ a0_0 c0_0 fp0,e=.returned (.tuple #[.slice a0_0 (levsAtR t nw f q).1.length c0_0,.int .i64 (levsAtR t nw f q).2])∧Below w.heap.size w w'∧Own w' (intsT (levsAtR t nw f q).1) (.slice a0_0 (levsAtR t nw f q).1.length c0_0) fp0∧In w.heap.size w'.heap.size fp0):=by
 have HB1:=Lib.hid (fun h=>levs_bad (t:=t) (n:=nw) (f:=f) (e:=q) h);have HO:=Lib.hid (levRows_one t nw f q);obtain⟨W0,hW0,b0_,z0,k0,k1,k2⟩:=boxes3 w #[.int .i64 t.step,.int .i64 t.width,.int .i64 t.height,vt3,vt4] 39 #[vnw0,vnw1,vnw2,vnw3] 46 #[.int .i64 q.place.x,.int .i64 q.place.y,.int .i64 q.above] 50;have HW0:=Lib.hid hW0;have B0:=Lib.hid b0_;have HD:=Lib.hid (fun (W:World) (hW:Below W0.heap.size W0 W)=>bx5 k0 hW <| bx4 k1 hW <| by3 k2 hW);have HB:Hid (Below W0.heap.size W0 W0):=Below.refl _ _;clear k0 k1 k2 hW0 b0_;have CLR:Hid (∀ (bb:Nat) (W:World),Below W0.heap.size W0 W→W.cell? ⟨bb,0,none⟩=some (.int .i64 q.place.x)→W.cell? ⟨bb,1,none⟩=some (.int .i64 q.place.y)→W.cell? ⟨bb,2,none⟩=some (.int .i64 q.above)→Calls Tryz.prog 28 #[.agg #[.int .i64 t.step,.int .i64 t.width,.int .i64 t.height,vt3,vt4],.agg #[vnw0,vnw1,vnw2,vnw3],.int .i64 f,.slice (some ⟨bb,0,none⟩) 1 1] W fun e w'=>∃ (a0:Option Addr) (c0:Nat) (fp:List Nat),e=.returned (.tuple #[.slice a0 (levRowsR t nw f [q]).1.length c0,.int .i64 (levRowsR t nw f [q]).2])∧Below W.heap.size W w'∧Own w' (intssT (levRowsR t nw f [q]).1) (.slice a0 (levRowsR t nw f [q]).1.length c0) fp∧In W.heap.size w'.heap.size fp):=fun bb W hW h0 h1 h2=>iLevelRows_std t nw f [q] vt3 vt4 vnw0 vnw1 vnw2 vnw3 _ W (L.mono (B0.out.trans (hW.mono B0.out.size))) ((rt3.below (B0.out.trans (hW.mono B0.out.size))).mono (B0.out.trans (hW.mono B0.out.size)).size) ((rt4.below (B0.out.trans (hW.mono B0.out.size))).mono (B0.out.trans (hW.mono B0.out.size)).size) ((rnw0.below (B0.out.trans (hW.mono B0.out.size))).mono (B0.out.trans (hW.mono B0.out.size)).size) ((rnw1.below (B0.out.trans (hW.mono B0.out.size))).mono (B0.out.trans (hW.mono B0.out.size)).size) ((rnw2.below (B0.out.trans (hW.mono B0.out.size))).mono (B0.out.trans (hW.mono B0.out.size)).size) ((rnw3.below (B0.out.trans (hW.mono B0.out.size))).mono (B0.out.trans (hW.mono B0.out.size)).size) (rd_end1 h0 h1 h2 (cell_lt h0)) hs_t hk_t hs_nw hk_nw hk_f (by rw[DEnd.siz_s,DEnd.sizL_s];simp) (by simpa using hk_q)
 clear rt3 rt4 rnw0 rnw1 rnw2 rnw3 L;generalize levRowsR t nw f [q]=RR at *;generalize levsAtR t nw f q=RV at *;go_enter Tryz.func17,Tryz.ntmps17;go_upto_region 1 with (fail);rw[HW0.out];obtain⟨t0,t1,t2,t3,t4,t5,t6,t7,t8,t9,t10,t11⟩:=HD.out _ HB.out;go_upto_region 2 with (go_at_call 28;(have ba_:=below_alloc W0 (.cells #[.int .i64 q.place.x,.int .i64 q.place.y,.int .i64 q.above] 50));(have ka_:=bkN W0 #[.int .i64 q.place.x,.int .i64 q.place.y,.int .i64 q.above] 50);refine (CLR.out _ _ (btr HB ba_).out (bkC ka_ 0 rfl) (bkC ka_ 1 rfl) (bkC ka_ 2 rfl)).mono ?_;rintro e w5 ⟨a0,c0,fp,rfl,hb_,ho_,hi_⟩;replace HB:=btr (btr HB ba_) hb_;(have OV:=Lib.hid ho_);(have IV:=Lib.hid hi_);(have zi:=ba_.size);clear hb_ ho_ hi_ ba_ ka_ t0 t1 t2 t3 t4 t5 t6 t7 t8 t9 t10 t11)
 by_cases hc:RV.2=0
 case neg =>
  have hr:RR=([],RV.2):=HO.out.trans (if_neg hc);have HE:=Lib.hid (HB1.out hc);have HR:=Lib.hid hr;have h1:RR.2=RV.2:=by rw[hr]
  have d1:(RR.2 == 0)=false:=by rw[h1];exact beq_eq_false_iff_ne.2 hc
  have H1:=Lib.hid h1;clear hr h1 hc;go_wp2;go_ret2;rw[HE.out,H1.out];exact⟨none,0,[],rfl,B0.out.trans (HB.out.mono B0.out.size),own_nilI _,In.nil⟩
 have hr:RR=([RV.1],0):=HO.out.trans (if_pos hc);have HC:=Lib.hid hc;have ho2:=OV.out;rw[hr] at ho2;obtain⟨b,off,a2,c2,f2,ea,hv,hown,hsub⟩:=own_row1 ho2;subst hr ea;have HOWN:=Lib.hid hown;have HSUB:=Lib.hid hsub;clear hown hsub ho2 hc HO HB1 OV;have d1:((0:Int) == 0)=true:=rfl;have i0:(0:Int)<1:=by decide
 go_wp2;go_ret2;rw[HC.out];have HIN:In w.heap.size w5.heap.size f2:=fun x hx=>by have:=IV.out x (HSUB.out x hx);have:=B0.out.size;omega
 first
  | exact⟨a2,c2,f2,rfl,B0.out.trans (HB.out.mono B0.out.size),HOWN.out,HIN⟩
  | exact⟨a2,c2,rfl,B0.out.trans (HB.out.mono B0.out.size),f2,HOWN.out,HIN⟩
theorem sLevelsAt_std (t:DTerrain) (nw:DNetwork) (f:Int) (q:DEnd) (vt3 vt4 vnw0 vnw1 vnw2 vnw3:Value) (w:World) (rt3:Rd w.heap.size w (intsT t.heights) vt3) (rt4:Rd w.heap.size w (intsT t.clutter) vt4) (rnw0:Rd w.heap.size w (DSite.sT nw.sites) vnw0) (rnw1:Rd w.heap.size w (DSector.sT nw.sectors) vnw1) (rnw2:Rd w.heap.size w (DAntenna.sT nw.antennas) vnw2) (rnw3:Rd w.heap.size w (DRadio.sT nw.radios) vnw3) (hs_t:sizL t.tr≤1048576) (hk_t:t.ok) (hs_nw:sizL nw.tr≤1048576) (hk_nw:nw.ok) (hk_f:I64 f) (hk_q:q.ok) :
  Calls Tryz.prog 16 #[.agg #[.int .i64 t.step,.int .i64 t.width,.int .i64 t.height,vt3,vt4],.agg #[vnw0,vnw1,vnw2,vnw3],.int .i64 f,.agg #[.int .i64 q.place.x,.int .i64 q.place.y,.int .i64 q.above]] w (fun e w'=>∃ a0_0 c0_0 fp0,e=.returned (.tuple #[.slice a0_0 (levsAtR t nw f q).1.length c0_0,.int .i64 (levsAtR t nw f q).2])∧Below w.heap.size w w'∧Own w' (intsT (levsAtR t nw f q).1) (.slice a0_0 (levsAtR t nw f q).1.length c0_0) fp0∧In w.heap.size w'.heap.size fp0):=by
 have hq:=DNetwork.siz_tr nw;rw[DSite.siz_s,DSector.siz_s,DAntenna.siz_s,DRadio.siz_s] at hq;have hqt:=DTerrain.siz_tr t;rw[siz_ints,siz_ints] at hqt;obtain⟨A0,C0,e0,_,_,_⟩:=DSite.rd rnw0;obtain⟨A1,C1,e1,_,_,_⟩:=DSector.rd rnw1;obtain⟨A2,C2,e2,_,_,_⟩:=DAntenna.rd rnw2;obtain⟨A3,C3,e3,_,_,_⟩:=DRadio.rd rnw3;subst e0 e1 e2 e3;have HE0:Hid (levsAtR t nw f q=if terrB t=true∧netB nw=true∧endB q=true then (if inB f 1 100000000=true∧inTerr t q.place=true then (if reachA t nw q=true then (rowL t nw f q,0) else ([],6)) else ([],2)) else ([],1)):=rfl;have HRL:Hid ((rowL t nw f q).length=nw.sectors.length):=rowL_len t nw f q;obtain⟨W0,hW0,b0_,z0,k0,k1,k2⟩:=boxes3 w #[.int .i64 t.step,.int .i64 t.width,.int .i64 t.height,vt3,vt4] 39 #[.slice A0 nw.sites.length C0,.slice A1 nw.sectors.length C1,.slice A2 nw.antennas.length C2,.slice A3 nw.radios.length C3] 46 #[.int .i64 q.place.x,.int .i64 q.place.y,.int .i64 q.above] 50;have HW0:=Lib.hid hW0;have B0:=Lib.hid b0_;have HD:=Lib.hid (fun (W:World) (hW:Below W0.heap.size W0 W)=>bx5 k0 hW <| bx4 k1 hW <| by3 k2 hW);have HB:Hid (Below W0.heap.size W0 W0):=Below.refl _ _;clear k0 k1 k2 hW0 b0_;have CT:Hid (∀ W:World,Below W0.heap.size W0 W→Calls Tryz.prog 39 #[.pointer (some ⟨w.heap.size,0,none⟩)] W fun e w'=>e=.returned (.bool (terrB t))∧Below W.heap.size W w'):=fun  W hW=>l04Ok_any t vt3 vt4 w.heap.size 0 w.heap.size W (rt3.below (B0.out.trans (hW.mono B0.out.size))) (rt4.below (B0.out.trans (hW.mono B0.out.size))) (B0.out.trans (hW.mono B0.out.size)).size (HD.out W hW).1 (HD.out W hW).2.1 (HD.out W hW).2.2.1 (HD.out W hW).2.2.2.1 (HD.out W hW).2.2.2.2.1 (by omega) (by omega)
 have CV:Hid (∀ W:World,Below W0.heap.size W0 W→Calls Tryz.prog 40 #[.pointer (some ⟨(w.heap.size+1),0,none⟩)] W fun e w'=>e=.returned (.bool (netB nw))∧Below W.heap.size W w'):=fun  W hW=>l14Ok_any nw _ _ _ _ (w.heap.size+1) W ((rnw0.below (B0.out.trans (hW.mono B0.out.size))).mono (B0.out.trans (hW.mono B0.out.size)).size) ((rnw1.below (B0.out.trans (hW.mono B0.out.size))).mono (B0.out.trans (hW.mono B0.out.size)).size) ((rnw2.below (B0.out.trans (hW.mono B0.out.size))).mono (B0.out.trans (hW.mono B0.out.size)).size) ((rnw3.below (B0.out.trans (hW.mono B0.out.size))).mono (B0.out.trans (hW.mono B0.out.size)).size) (by have:=hW.size;omega) (HD.out W hW).2.2.2.2.2.1 (HD.out W hW).2.2.2.2.2.2.1 (HD.out W hW).2.2.2.2.2.2.2.1 (HD.out W hW).2.2.2.2.2.2.2.2.1 (by omega) hk_nw
 have CQ:Hid (∀ W:World,Below W0.heap.size W0 W→Calls Tryz.prog 41 #[.agg #[.int .i64 q.place.x,.int .i64 q.place.y,.int .i64 q.above]] W fun e w'=>e=.returned (.bool (endB q))∧Below W.heap.size W w'):=fun  W hW=>l12End_any q W
 have CF:Hid (∀ W:World,Below W0.heap.size W0 W→Calls Tryz.prog 42 #[.int .i64 f] W fun e w'=>e=.returned (.bool (inB f 1 100000000))∧Below W.heap.size W w'):=fun  W hW=>same_below (l05Frequency_any f W)
 cases hT:terrB t with
 | false =>
  rw[hT] at CT;have HE:Hid (levsAtR t nw f q=([],1)):=by show _=_;rw[HE0.out,if_neg (by rw[hT];simp)]
  clear HE0;generalize levsAtR t nw f q=RV at *;go_enter Tryz.func16,Tryz.ntmps16;go_upto_region 1 with (fail);rw[HW0.out];obtain⟨t0,t1,t2,t3,t4,t5,t6,t7,t8,t9,t10,t11⟩:=HD.out _ HB.out;go_wp2_with (first|(go_at_call 39;with_reducible refine (CT.out _ HB.out).mono ?_;rintro e v1 ⟨rfl,hb_⟩;(try clear t0 t1 t2 t3 t4 t5 t6 t7 t8 t9 t10 t11);replace HB:=btr HB hb_;clear hb_;obtain⟨t0,t1,t2,t3,t4,t5,t6,t7,t8,t9,t10,t11⟩:=HD.out _ HB.out));go_ret2;rw[HE.out];exact⟨none,0,[],rfl,B0.out.trans (HB.out.mono B0.out.size),own_nilI _,In.nil⟩
 | true =>
  rw[hT] at CT;have T:=terrB_ok hT;have CH:Hid (∀ W:World,Below W0.heap.size W0 W→Calls Tryz.prog 43 #[.pointer (some ⟨w.heap.size,0,none⟩),.agg #[.int .i64 q.place.x,.int .i64 q.place.y]] W fun e w'=>e=.returned (.bool (inTerr t q.place))∧Below W.heap.size W w'):=fun  W hW=>l04In_any t q.place w.heap.size 0 ⟨T.w0,T.w1⟩ ⟨T.h0,T.h1⟩ ⟨T.mw.1,Int.le_trans T.mw.2 (by decide)⟩ ⟨T.mh.1,Int.le_trans T.mh.2 (by decide)⟩ W (HD.out W hW).1 (HD.out W hW).2.1 (HD.out W hW).2.2.1
  cases hV:netB nw with
  | false =>
   rw[hV] at CV;have HE:Hid (levsAtR t nw f q=([],1)):=by show _=_;rw[HE0.out,if_neg (by rw[hV];simp)]
   clear HE0;generalize levsAtR t nw f q=RV at *;go_enter Tryz.func16,Tryz.ntmps16;go_upto_region 1 with (fail);rw[HW0.out];obtain⟨t0,t1,t2,t3,t4,t5,t6,t7,t8,t9,t10,t11⟩:=HD.out _ HB.out;go_wp2_with ((first|(go_at_call 39;with_reducible refine (CT.out _ HB.out).mono ?_)|(go_at_call 40;with_reducible refine (CV.out _ HB.out).mono ?_));rintro e v1 ⟨rfl,hb_⟩;(try clear t0 t1 t2 t3 t4 t5 t6 t7 t8 t9 t10 t11);replace HB:=btr HB hb_;clear hb_;obtain⟨t0,t1,t2,t3,t4,t5,t6,t7,t8,t9,t10,t11⟩:=HD.out _ HB.out);go_ret2;rw[HE.out];exact⟨none,0,[],rfl,B0.out.trans (HB.out.mono B0.out.size),own_nilI _,In.nil⟩
  | true =>
   rw[hV] at CV;have CA:Hid (∀ W:World,Below W0.heap.size W0 W→Calls Tryz.prog 65 #[.pointer (some ⟨w.heap.size,0,none⟩),.pointer (some ⟨(w.heap.size+1),0,none⟩),.agg #[.int .i64 q.place.x,.int .i64 q.place.y,.int .i64 q.above]] W fun e w'=>e=.returned (.bool (reachA t nw q))∧Below W.heap.size W w'):=fun  W hW=>l16Ends_any t nw q T hV _ _ _ _ vt3 vt4 w.heap.size 0 (w.heap.size+1) (by omega) (by omega) (by omega) (by omega) W ((rnw0.below (B0.out.trans (hW.mono B0.out.size))).mono (B0.out.trans (hW.mono B0.out.size)).size) ((rnw1.below (B0.out.trans (hW.mono B0.out.size))).mono (B0.out.trans (hW.mono B0.out.size)).size) (by have:=hW.size;omega) (HD.out W hW).1 (HD.out W hW).2.1 (HD.out W hW).2.2.1 (HD.out W hW).2.2.2.1 (HD.out W hW).2.2.2.2.1 (HD.out W hW).2.2.2.2.2.1 (HD.out W hW).2.2.2.2.2.2.1 (HD.out W hW).2.2.2.2.2.2.2.1 (HD.out W hW).2.2.2.2.2.2.2.2.1
   cases hQ:endB q with
   | false =>
    rw[hQ] at CQ;have HE:Hid (levsAtR t nw f q=([],1)):=by show _=_;rw[HE0.out,if_neg (by rw[hQ];simp)]
    clear HE0;generalize levsAtR t nw f q=RV at *;go_enter Tryz.func16,Tryz.ntmps16;go_upto_region 1 with (fail);rw[HW0.out];obtain⟨t0,t1,t2,t3,t4,t5,t6,t7,t8,t9,t10,t11⟩:=HD.out _ HB.out;go_wp2_with ((first|(go_at_call 39;with_reducible refine (CT.out _ HB.out).mono ?_)|(go_at_call 40;with_reducible refine (CV.out _ HB.out).mono ?_)|(go_at_call 41;with_reducible refine (CQ.out _ HB.out).mono ?_));rintro e v1 ⟨rfl,hb_⟩;(try clear t0 t1 t2 t3 t4 t5 t6 t7 t8 t9 t10 t11);replace HB:=btr HB hb_;clear hb_;obtain⟨t0,t1,t2,t3,t4,t5,t6,t7,t8,t9,t10,t11⟩:=HD.out _ HB.out);go_ret2;rw[HE.out];exact⟨none,0,[],rfl,B0.out.trans (HB.out.mono B0.out.size),own_nilI _,In.nil⟩
   | true =>
    rw[hQ] at CQ
    cases hF:inB f 1 100000000 with
    | false =>
     rw[hF] at CF;have HE:Hid (levsAtR t nw f q=([],2)):=by show _=_;rw[HE0.out,if_pos ⟨hT,hV,hQ⟩,if_neg (by rw[hF];simp)]
     clear HE0;generalize levsAtR t nw f q=RV at *;go_enter Tryz.func16,Tryz.ntmps16;go_upto_region 1 with (fail);rw[HW0.out];obtain⟨t0,t1,t2,t3,t4,t5,t6,t7,t8,t9,t10,t11⟩:=HD.out _ HB.out;go_wp2_with ((first|(go_at_call 39;with_reducible refine (CT.out _ HB.out).mono ?_)|(go_at_call 40;with_reducible refine (CV.out _ HB.out).mono ?_)|(go_at_call 41;with_reducible refine (CQ.out _ HB.out).mono ?_)|(go_at_call 42;with_reducible refine (CF.out _ HB.out).mono ?_));rintro e v1 ⟨rfl,hb_⟩;(try clear t0 t1 t2 t3 t4 t5 t6 t7 t8 t9 t10 t11);replace HB:=btr HB hb_;clear hb_;obtain⟨t0,t1,t2,t3,t4,t5,t6,t7,t8,t9,t10,t11⟩:=HD.out _ HB.out);go_ret2;rw[HE.out];exact⟨none,0,[],rfl,B0.out.trans (HB.out.mono B0.out.size),own_nilI _,In.nil⟩
    | true =>
     rw[hF] at CF
     cases hI:inTerr t q.place with
     | false =>
      rw[hI] at CH;have HE:Hid (levsAtR t nw f q=([],2)):=by show _=_;rw[HE0.out,if_pos ⟨hT,hV,hQ⟩,if_neg (by rw[hI];simp)]
      clear HE0;generalize levsAtR t nw f q=RV at *;go_enter Tryz.func16,Tryz.ntmps16;go_upto_region 1 with (fail);rw[HW0.out];obtain⟨t0,t1,t2,t3,t4,t5,t6,t7,t8,t9,t10,t11⟩:=HD.out _ HB.out;go_wp2_with ((first|(go_at_call 39;with_reducible refine (CT.out _ HB.out).mono ?_)|(go_at_call 40;with_reducible refine (CV.out _ HB.out).mono ?_)|(go_at_call 41;with_reducible refine (CQ.out _ HB.out).mono ?_)|(go_at_call 42;with_reducible refine (CF.out _ HB.out).mono ?_)|(go_at_call 43;with_reducible refine (CH.out _ HB.out).mono ?_));rintro e v1 ⟨rfl,hb_⟩;(try clear t0 t1 t2 t3 t4 t5 t6 t7 t8 t9 t10 t11);replace HB:=btr HB hb_;clear hb_;obtain⟨t0,t1,t2,t3,t4,t5,t6,t7,t8,t9,t10,t11⟩:=HD.out _ HB.out);go_ret2;rw[HE.out];exact⟨none,0,[],rfl,B0.out.trans (HB.out.mono B0.out.size),own_nilI _,In.nil⟩
     | true =>
      rw[hI] at CH
      cases hA:reachA t nw q with
      | false =>
       rw[hA] at CA;have HE:Hid (levsAtR t nw f q=([],6)):=by show _=_;rw[HE0.out,if_pos ⟨hT,hV,hQ⟩,if_pos ⟨hF,hI⟩,if_neg (by rw[hA];decide)]
       clear HE0;generalize levsAtR t nw f q=RV at *;go_enter Tryz.func16,Tryz.ntmps16;go_upto_region 1 with (fail);rw[HW0.out];obtain⟨t0,t1,t2,t3,t4,t5,t6,t7,t8,t9,t10,t11⟩:=HD.out _ HB.out;go_wp2_with ((first|(go_at_call 39;with_reducible refine (CT.out _ HB.out).mono ?_)|(go_at_call 40;with_reducible refine (CV.out _ HB.out).mono ?_)|(go_at_call 41;with_reducible refine (CQ.out _ HB.out).mono ?_)|(go_at_call 42;with_reducible refine (CF.out _ HB.out).mono ?_)|(go_at_call 43;with_reducible refine (CH.out _ HB.out).mono ?_)|(go_at_call 65;with_reducible refine (CA.out _ HB.out).mono ?_));rintro e v1 ⟨rfl,hb_⟩;(try clear t0 t1 t2 t3 t4 t5 t6 t7 t8 t9 t10 t11);replace HB:=btr HB hb_;clear hb_;obtain⟨t0,t1,t2,t3,t4,t5,t6,t7,t8,t9,t10,t11⟩:=HD.out _ HB.out);go_ret2;rw[HE.out];exact⟨none,0,[],rfl,B0.out.trans (HB.out.mono B0.out.size),own_nilI _,In.nil⟩
      | true =>
       rw[hA] at CA;have CR:Hid (∀ W:World,Below W0.heap.size W0 W→Calls Tryz.prog 66 #[.pointer (some ⟨w.heap.size,0,none⟩),.pointer (some ⟨(w.heap.size+1),0,none⟩),.int .i64 f,.agg #[.int .i64 q.place.x,.int .i64 q.place.y,.int .i64 q.above]] W fun e w'=>∃ (a':Option Addr) (c':Nat) (fp:List Nat),e=.returned (.slice a' nw.sectors.length c')∧Below W.heap.size W w'∧Own w' (intsT (rowL t nw f q)) (.slice a' nw.sectors.length c') fp∧In W.heap.size w'.heap.size fp):=fun W hW=>l16Levels_any t nw q T hV _ _ _ _ vt3 vt4 w.heap.size 0 (w.heap.size+1) (by omega) (by omega) (by omega) (by omega) (inTB_true.1 (show inTB t q.place=true from hI)) (endB_true.1 hQ).2 hA f (inB_true.1 hF).1 (inB_true.1 hF).2 W ((rnw0.below (B0.out.trans (hW.mono B0.out.size))).mono (B0.out.trans (hW.mono B0.out.size)).size) ((rnw1.below (B0.out.trans (hW.mono B0.out.size))).mono (B0.out.trans (hW.mono B0.out.size)).size) ((rnw2.below (B0.out.trans (hW.mono B0.out.size))).mono (B0.out.trans (hW.mono B0.out.size)).size) ((rnw3.below (B0.out.trans (hW.mono B0.out.size))).mono (B0.out.trans (hW.mono B0.out.size)).size) ((rt3.below (B0.out.trans (hW.mono B0.out.size))).mono (B0.out.trans (hW.mono B0.out.size)).size) ((rt4.below (B0.out.trans (hW.mono B0.out.size))).mono (B0.out.trans (hW.mono B0.out.size)).size) (by have:=hW.size;omega) (HD.out W hW).1 (HD.out W hW).2.1 (HD.out W hW).2.2.1 (HD.out W hW).2.2.2.1 (HD.out W hW).2.2.2.2.1 (HD.out W hW).2.2.2.2.2.1 (HD.out W hW).2.2.2.2.2.2.1 (HD.out W hW).2.2.2.2.2.2.2.1 (HD.out W hW).2.2.2.2.2.2.2.2.1
       have HE:Hid (levsAtR t nw f q=(rowL t nw f q,0)):=by show _=_;rw[HE0.out,if_pos ⟨hT,hV,hQ⟩,if_pos ⟨hF,hI⟩,if_pos hA]
       clear HE0 rt3 rt4 rnw0 rnw1 rnw2 rnw3 T hT hV hQ hF hI hA;generalize levsAtR t nw f q=RV at *;generalize rowL t nw f q=row at *;go_enter Tryz.func16,Tryz.ntmps16;go_upto_region 1 with (fail);rw[HW0.out];obtain⟨t0,t1,t2,t3,t4,t5,t6,t7,t8,t9,t10,t11⟩:=HD.out _ HB.out;go_upto_region 7 with ((first|(go_at_call 39;with_reducible refine (CT.out _ HB.out).mono ?_)|(go_at_call 40;with_reducible refine (CV.out _ HB.out).mono ?_)|(go_at_call 41;with_reducible refine (CQ.out _ HB.out).mono ?_)|(go_at_call 42;with_reducible refine (CF.out _ HB.out).mono ?_)|(go_at_call 43;with_reducible refine (CH.out _ HB.out).mono ?_)|(go_at_call 65;with_reducible refine (CA.out _ HB.out).mono ?_));rintro e v1 ⟨rfl,hb_⟩;(try clear t0 t1 t2 t3 t4 t5 t6 t7 t8 t9 t10 t11);replace HB:=btr HB hb_;clear hb_;obtain⟨t0,t1,t2,t3,t4,t5,t6,t7,t8,t9,t10,t11⟩:=HD.out _ HB.out);go_wp2_with (go_at_call 66;with_reducible refine (CR.out _ HB.out).mono ?_;rintro e v2 ⟨a6,c6,fp,rfl,hb_,ho_,hi_⟩;(have OV:=Lib.hid ho_);(have IV:=Lib.hid (hi_.mono (B0.out.trans (HB.out.mono B0.out.size)).size (Nat.le_refl _)));replace HB:=btr HB hb_;clear hb_ ho_ hi_ t0 t1 t2 t3 t4 t5 t6 t7 t8 t9 t10 t11);go_ret2;rw[HE.out];have OV2:Own v2 (intsT row) (.slice a6 row.length c6) fp:=by rw[HRL.out];exact OV.out
       first
        | exact⟨a6,c6,fp,by rw[← HRL.out];rfl,B0.out.trans (HB.out.mono B0.out.size),OV2,IV.out⟩
        | exact⟨a6,c6,by rw[← HRL.out];rfl,B0.out.trans (HB.out.mono B0.out.size),fp,OV2,IV.out⟩
end Go.Proofs.YtdgmgchdjlfchaaGreatDoor
