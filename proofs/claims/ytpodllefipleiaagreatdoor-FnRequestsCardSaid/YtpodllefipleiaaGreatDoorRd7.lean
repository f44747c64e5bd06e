/- Contracts: requests, read and written, for the program and for the reference. Conditions: bounded sizes; the library's own variables hold what they hold at the start. -/
import Derived.Test.YtpodllefipleiaaGreatDoorRd6
import Derived.Test.YtpodllefipleiaaGreatDoorTn5
set_option linter.unusedVariables false
set_option linter.unusedSimpArgs false
namespace Go.Proofs.YtpodllefipleiaaGreatDoor
open Go.RowKit
set_option maxHeartbeats 8000000
set_option maxRecDepth 100000
def zReq:DRequest:=⟨ofL [],ofL [],ofL [],0,0,0,0,0⟩
theorem stateText_len (k:Int):(zaq k).length≤9:=by
 unfold zaq
 repeat' split
 all_goals simp
theorem reqB_state {x:DRequest} (h:reqB x=true):1≤x.state∧x.state≤5:=by
 simp only[reqB,inB,Bool.and_eq_true,decide_eq_true_eq] at h;omega
theorem stateOf_range (l:List UInt8):0≤zal l∧zal l≤5:=by
 unfold zal
 repeat' split
 all_goals omega
theorem state_eq (k:Int) (h1:1≤k) (h2:k≤5) (l:List UInt8):zaq k=l↔zal l=k:=by
 constructor
 ·rintro rfl
  rcases (by omega:k=1∨k=2∨k=3∨k=4∨k=5) with rfl|rfl|rfl|rfl|rfl<;>decide
 ·intro h
  rw[← h];exact stateText_of (by omega)
theorem stateEqS (k:Int) (h1:1≤k) (h2:k≤5) (t:List UInt8):eqS (ofL (zaq k)) (ofL t)=decide (zal t=k):=by
 rw[Bool.eq_iff_iff,zcm,decide_eq_true_eq,← state_eq k h1 h2 t];exact⟨fun h=>ofL_inj h,fun h=>by rw[h]⟩
theorem stateName_any (n:Int) (h1:1≤n) (h2:n≤5) (w:World):Calls Tryz.prog 57 #[.int .i64 n] w fun e w'=>e=.returned (.string (ofL (zaq n)))∧Below w.heap.size w w':=by
 have HW:Hid (∀ W,Calls Tryz.prog 59 #[.int .i64 n,.int .i64 1,.int .i64 5] W fun e w'=>e=.returned (.bool true)∧W=w'):=fun W=>by
  have:=zap n 1 5 W;rw[show inB n 1 5=true by unfold inB;simp<;>omega] at this;exact this
 have i1:∀ w:World,(Instr.index 127 (.agg #[.string ⟨#[]⟩,.string ⟨#[111,112,101,110]⟩,.string ⟨#[97,103,114,101,101,100]⟩,.string ⟨#[114,101,102,117,115,101,100]⟩,.string ⟨#[119,105,116,104,100,114,97,119,110]⟩,.string ⟨#[108,97,112,115,101,100]⟩]) (.int .i64 1)).run Tryz.prog w=.ok (.string ⟨#[111,112,101,110]⟩) w:=fun _=>by kernel_rfl
 have i2:∀ w:World,(Instr.index 127 (.agg #[.string ⟨#[]⟩,.string ⟨#[111,112,101,110]⟩,.string ⟨#[97,103,114,101,101,100]⟩,.string ⟨#[114,101,102,117,115,101,100]⟩,.string ⟨#[119,105,116,104,100,114,97,119,110]⟩,.string ⟨#[108,97,112,115,101,100]⟩]) (.int .i64 2)).run Tryz.prog w=.ok (.string ⟨#[97,103,114,101,101,100]⟩) w:=fun _=>by kernel_rfl
 have i3:∀ w:World,(Instr.index 127 (.agg #[.string ⟨#[]⟩,.string ⟨#[111,112,101,110]⟩,.string ⟨#[97,103,114,101,101,100]⟩,.string ⟨#[114,101,102,117,115,101,100]⟩,.string ⟨#[119,105,116,104,100,114,97,119,110]⟩,.string ⟨#[108,97,112,115,101,100]⟩]) (.int .i64 3)).run Tryz.prog w=.ok (.string ⟨#[114,101,102,117,115,101,100]⟩) w:=fun _=>by kernel_rfl
 have i4:∀ w:World,(Instr.index 127 (.agg #[.string ⟨#[]⟩,.string ⟨#[111,112,101,110]⟩,.string ⟨#[97,103,114,101,101,100]⟩,.string ⟨#[114,101,102,117,115,101,100]⟩,.string ⟨#[119,105,116,104,100,114,97,119,110]⟩,.string ⟨#[108,97,112,115,101,100]⟩]) (.int .i64 4)).run Tryz.prog w=.ok (.string ⟨#[119,105,116,104,100,114,97,119,110]⟩) w:=fun _=>by kernel_rfl
 have i5:∀ w:World,(Instr.index 127 (.agg #[.string ⟨#[]⟩,.string ⟨#[111,112,101,110]⟩,.string ⟨#[97,103,114,101,101,100]⟩,.string ⟨#[114,101,102,117,115,101,100]⟩,.string ⟨#[119,105,116,104,100,114,97,119,110]⟩,.string ⟨#[108,97,112,115,101,100]⟩]) (.int .i64 5)).run Tryz.prog w=.ok (.string ⟨#[108,97,112,115,101,100]⟩) w:=fun _=>by kernel_rfl
 rcases (by omega:n=1∨n=2∨n=3∨n=4∨n=5) with rfl|rfl|rfl|rfl|rfl
 all_goals
  go_enter Tryz.func57,Tryz.ntmps57;go_wp2_with (go_at_call 59;with_reducible refine (HW.out _).mono ?_;rintro e w1 ⟨rfl,rfl⟩);go_ret;exact⟨rfl,Below.refl _ _⟩
theorem stateClosure_any (n:Int) (h1:1≤n) (h2:n≤5) (wb b1 off c1:Nat) (t:List UInt8) (w:World) (c0:w.cell? ⟨wb,0,none⟩=some (.slice (some ⟨b1,off,none⟩) 5 c1)) (c4:w.cell? ⟨b1,off+4,none⟩=some (.string (ofL t))) :
  Calls Tryz.prog 56 #[.int .i64 n,.pointer (some ⟨wb,0,none⟩)] w fun e w'=>e=.returned (.bool (decide (zal t=n)))∧Below w.heap.size w w':=by
 have HN:Hid (∀ W:World,Calls Tryz.prog 57 #[.int .i64 n] W fun e w'=>e=.returned (.string (ofL (zaq n)))∧Below W.heap.size W w'):=fun W=>stateName_any n h1 h2 W
 have HE:=Lib.hid (stateEqS n h1 h2 t);have l0:=zcp c0;have l4:=zcp c4
 dsimp only at l0 l4
 generalize ofL (zaq n)=tn at *;generalize ofL t=tt at *;have o0:=za2 (w0:=w) l0;have o4:=za2 (w0:=w) l4;clear h1 h2;go_enter Tryz.func56,Tryz.ntmps56;go_upto_region 1 with (fail);refine zac w.heap.size w (Below.refl _ _) (by kernel_rfl) (by kernel_rfl) ?_
 repeat (go_big_quiet_step (first|(go_at_call 57;with_reducible exact za8 (Nat.le_refl _) (HN.out _))))
 refine wpQuiet_nil ?_;rintro _ ⟨X,rfl⟩;have BE:=Lib.hid (zad w.heap.size w X);clear o0 o4;generalize over w.heap.size w X=w9 at *;go_wp2;go_ret;exact⟨by rw[← HE.out];rfl,BE.out⟩
theorem leastState_any (wb b1 off c1:Nat) (t:List UInt8) (w:World) (c0:w.cell? ⟨wb,0,none⟩=some (.slice (some ⟨b1,off,none⟩) 5 c1)) (c4:w.cell? ⟨b1,off+4,none⟩=some (.string (ofL t))) :
  Calls Tryz.prog 55 #[.int .i64 1,.int .i64 5,.func (.func 56) #[] #[.pointer (some ⟨wb,0,none⟩)]] w fun e w'=>e=.returned (.tuple #[.int .i64 (zal t),.bool (decide (zal t≠0))])∧Below w.heap.size w w':=by
 have l0:=zcp c0;have l4:=zcp c4
 dsimp only at l0 l4
 have hcf:∀ (args:Array Value) (W:World),(callFunc 56 args).run Tryz.prog W=.ok (.enter 56 args) W:=fun _ _=>by kernel_rfl
 have HC:Hid (∀ (n:Int) (W:World),1≤n→n≤5→Below w.heap.size w W→Calls Tryz.prog 56 #[.int .i64 n,.pointer (some ⟨wb,0,none⟩)] W fun e w'=>e=.returned (.bool (decide (zal t=n)))∧Below W.heap.size W w'):=fun n W h1 h2 hW =>
  stateClosure_any n h1 h2 wb b1 off c1 t W ((bat hW _ _ l0).trans c0) ((bat hW _ _ l4).trans c4)
 have HR:=Lib.hid (stateOf_range t);generalize zal t=c at *;clear c0 c4 l0 l4;go_enter Tryz.func55,Tryz.ntmps55;go_wp2;go_loopw [8] (fun i wr=>∃ (k:Nat),1≤k∧k≤6∧i=.int .i64 k∧(c=0∨(k:Int)≤c)∧Below w.heap.size w wr) (fun i wr=>6-(intOf i).toNat)
 case atStart=>exact⟨1,by omega,by omega,rfl,by have:=HR.out;omega,Below.refl _ _⟩
 case round =>
  obtain⟨k,hk1,hk,rfl,hno,hb⟩:=hrel;have HN:=Lib.hid hno;have HB:=Lib.hid hb;clear hno hb
  by_cases hlt:k≤5
  ·have hki:(k:Int)≤5:=by omega
   have hkj:(1:Int)≤k:=by omega
   have HCk:=Lib.hid (fun W h=>HC.out (k:Int) W hkj hki h);go_wp2_with fail;refine (HCk.out _ HB.out).mono ?_;rintro e w1 ⟨rfl,hb1⟩;have HB1:=Lib.hid (HB.out.trans (hb1.mono HB.out.size));clear hb1
   by_cases hp:c=(k:Int)
   ·have hd:decide (c=(k:Int))=true:=decide_eq_true hp
    rw[hd];have HP:=Lib.hid hp;clear hp hd;go_wp2;go_ret2;exact⟨by rw[HP.out,decide_eq_true (show (k:Int)≠0 by omega)];rfl,HB1.out⟩
   ·have hd:decide (c=(k:Int))=false:=decide_eq_false hp
    rw[hd];have HP:=Lib.hid hp;clear hp hd;go_wp2;go_roundw
    case rel=>exact⟨k+1,by omega,by omega,by go_num,by have:=HN.out;have:=HP.out;omega,HB1.out⟩
    case measure=>simp[intOf];omega
  ·obtain rfl:k=6:=by omega
   have hc0:c=0:=by have:=HN.out;have:=HR.out;omega
   subst hc0;go_wp2;go_ret2;exact⟨rfl,HB.out⟩
theorem requestText_any (x:DRequest) (h0:x.id.size≤1048576) (h1:x.applicant.size≤1048576) (h2:x.partner.size≤1048576) (w:World) (L:LibW w):Calls Tryz.prog 17 #[.agg #[.string x.id,.string x.applicant,.string x.partner,.int .i64 x.low,.int .i64 x.high,.int .i64 x.filed,.int .i64 x.deadline,.int .i64 x.state]] w fun e w'=>e=.returned (.string (zbb x))∧Below w.heap.size w w':=by
 obtain⟨W0,hW0,b0,z0,k0⟩:=zas w #[.string x.id,.string x.applicant,.string x.partner,.int .i64 x.low,.int .i64 x.high,.int .i64 x.filed,.int .i64 x.deadline,.int .i64 x.state] 45;have HW0:=Lib.hid hW0;clear hW0;have B0:=Lib.hid b0;clear b0;have K0:=Lib.hid k0;clear k0;have HD:Hid (∀ W:World,Below W0.heap.size W0 W→(W.cell? ⟨w.heap.size,0,none⟩=some (.string x.id)∧W.cell? ⟨w.heap.size,1,none⟩=some (.string x.applicant)∧W.cell? ⟨w.heap.size,2,none⟩=some (.string x.partner)∧W.cell? ⟨w.heap.size,3,none⟩=some (.int .i64 x.low)∧W.cell? ⟨w.heap.size,4,none⟩=some (.int .i64 x.high)∧W.cell? ⟨w.heap.size,5,none⟩=some (.int .i64 x.filed)∧W.cell? ⟨w.heap.size,6,none⟩=some (.int .i64 x.deadline)∧W.cell? ⟨w.heap.size,7,none⟩=some (.int .i64 x.state))):=fun W hW=>⟨bkC (bkB K0.out hW (by omega)) 0 rfl,bkC (bkB K0.out hW (by omega)) 1 rfl,bkC (bkB K0.out hW (by omega)) 2 rfl,bkC (bkB K0.out hW (by omega)) 3 rfl,bkC (bkB K0.out hW (by omega)) 4 rfl,bkC (bkB K0.out hW (by omega)) 5 rfl,bkC (bkB K0.out hW (by omega)) 6 rfl,bkC (bkB K0.out hW (by omega)) 7 rfl⟩
 have HB:Hid (Below W0.heap.size W0 W0):=Below.refl _ _;have HH:Hid (∀ W:World,Below W0.heap.size W0 W→Below w.heap.size w W):=fun W hW=>B0.out.trans (hW.mono (by omega))
 have CV:Hid (∀ W:World,Calls Tryz.prog 46 #[.agg #[.string x.id,.string x.applicant,.string x.partner,.int .i64 x.low,.int .i64 x.high,.int .i64 x.filed,.int .i64 x.deadline,.int .i64 x.state]] W fun e w'=>e=.returned (.bool (reqB x))∧Below W.heap.size W w'):=fun W=>zb1 x (by unfold maxLen;omega) (by unfold maxLen;omega) (by unfold maxLen;omega) W
 have HLW:Hid (∀ W,Below W0.heap.size W0 W→LibW W):=fun W hW=>L.mono (HH.out W hW)
 clear L
 by_cases hv:reqB x=true
 case neg =>
  have hv':reqB x=false:=Bool.eq_false_iff.2 hv;rw[hv'] at CV;have HE:Hid (zbb x=ofL []):=by show _=_;unfold zbb;rw[if_neg hv]
  clear hv hv' h0 h1 h2;go_enter Tryz.func17,Tryz.ntmps17;go_upto_region 1 with (fail);rw[HW0.out];obtain⟨t0,t1,t2,t3,t4,t5,t6,t7⟩:=HD.out _ HB.out;go_wp2_with (go_at_call 46;with_reducible refine (CV.out _).mono ?_;rintro e w2 ⟨rfl,hb2⟩;(try clear t0 t1 t2 t3 t4 t5 t6 t7);replace HB:=Lib.hid (HB.out.trans (hb2.mono HB.out.size));clear hb2;obtain⟨t0,t1,t2,t3,t4,t5,t6,t7⟩:=HD.out _ HB.out);go_ret;exact⟨by rw[HE.out];rfl,HH.out _ HB.out⟩
 case pos =>
  rw[hv] at CV;have hI:∀ n ∈ [x.low,x.high,x.filed,x.deadline],I64 n:=by
   have hv2:=hv;simp only[reqB,inB,Bool.and_eq_true,decide_eq_true_eq] at hv2;intro n hn;simp only[List.mem_cons,List.not_mem_nil,or_false] at hn
   rcases hn with rfl|rfl|rfl|rfl<;>constructor<;>omega
  have HE:Hid (ofL (Go.Lib.join ([x.id,x.applicant,x.partner,ofL (zag [x.low,x.high,x.filed,x.deadline]),ofL (zaq x.state)].map bl) [32])=zbb x):=by
   show _=_
   unfold zbb;rw[if_pos hv];simp only[List.map_cons,List.map_nil,bl_ofL]
  have hlx:(ofL (zag [x.low,x.high,x.filed,x.deadline])).size≤1048576:=Nat.le_trans (listText_len _ hI) (by omega);have HLT:Hid (∀ (W:World) (b:Nat),LibW W→b<W.heap.size→W.heap[b]? = some (.cells #[.int .i64 x.low,.int .i64 x.high,.int .i64 x.filed,.int .i64 x.deadline] 2 (0,0))→Calls Tryz.prog 58 #[.slice (some ⟨b,0,none⟩) 4 4] W fun e w'=>e=.returned (.string (ofL (zag [x.low,x.high,x.filed,x.deadline])))∧Below W.heap.size W w'):=fun W b hL hb hk =>
   listText_any [x.low,x.high,x.filed,x.deadline] _ (b+1) W hL (rd_cellsI W b [x.low,x.high,x.filed,x.deadline] 4 (by simp) (by simp) (by unfold maxLen;omega) (fun i hi=>by
    have:i<4:=hi
    match i,this with
    | 0,_=>exact bkC hk 0 rfl
    | 1,_=>exact bkC hk 1 rfl
    | 2,_=>exact bkC hk 2 rfl
    | 3,_=>exact bkC hk 3 rfl)) (by omega) (by simp) hI
  have hst:(ofL (zaq x.state)).size≤1048576:=Nat.le_trans (stateText_len _) (by omega);have HSN:Hid (∀ W:World,Calls Tryz.prog 57 #[.int .i64 x.state] W fun e w'=>e=.returned (.string (ofL (zaq x.state)))∧Below W.heap.size W w'):=fun W=>stateName_any x.state (reqB_state hv).1 (reqB_state hv).2 W
  clear hv hI;generalize ofL (zag [x.low,x.high,x.filed,x.deadline])=tx at *;generalize ofL (zaq x.state)=ts at *;have HJ:Hid (∀ (W:World) (b:Nat),b<W.heap.size→W.heap[b]? = some (.cells #[.string x.id,.string x.applicant,.string x.partner,.string tx,.string ts] 9 (0,0))→Calls Tryz.prog 35 #[.slice (some ⟨b,0,none⟩) 5 5,.string ⟨#[32]⟩] W fun e w'=>e=.returned (.string (zbb x))∧Below W.heap.size W w'):=fun W b hb hk=>by
   rw[← HE.out];refine joinC_any W b 5 [x.id,x.applicant,x.partner,tx,ts] 1048576 (by simp) (by simp) hb (fun y hy=>?_) (by omega) (fun i hi=>?_)
   ·simp only[List.mem_cons,List.not_mem_nil,or_false] at hy
    rcases hy with rfl|rfl|rfl|rfl|rfl<;>assumption
   ·have:i<5:=hi
    match i,this with
    | 0,_=>exact bkC hk 0 rfl
    | 1,_=>exact bkC hk 1 rfl
    | 2,_=>exact bkC hk 2 rfl
    | 3,_=>exact bkC hk 3 rfl
    | 4,_=>exact bkC hk 4 rfl
  clear HE hlx h0 h1 h2 hst;go_enter Tryz.func17,Tryz.ntmps17;go_upto_region 1 with (fail);rw[HW0.out];obtain⟨t0,t1,t2,t3,t4,t5,t6,t7⟩:=HD.out _ HB.out;go_upto_region 3 with (go_at_call 46;with_reducible refine (CV.out _).mono ?_;rintro e w2 ⟨rfl,hb2⟩;(try clear t0 t1 t2 t3 t4 t5 t6 t7);replace HB:=Lib.hid (HB.out.trans (hb2.mono HB.out.size));clear hb2;obtain⟨t0,t1,t2,t3,t4,t5,t6,t7⟩:=HD.out _ HB.out);have HS2:Hid (∀ W,Below w2.heap.size w2 W→(W.cell? ⟨w.heap.size,0,none⟩=some (.string x.id)∧W.cell? ⟨w.heap.size,1,none⟩=some (.string x.applicant)∧W.cell? ⟨w.heap.size,2,none⟩=some (.string x.partner)∧W.cell? ⟨w.heap.size,3,none⟩=some (.int .i64 x.low)∧W.cell? ⟨w.heap.size,4,none⟩=some (.int .i64 x.high)∧W.cell? ⟨w.heap.size,5,none⟩=some (.int .i64 x.filed)∧W.cell? ⟨w.heap.size,6,none⟩=some (.int .i64 x.deadline)∧W.cell? ⟨w.heap.size,7,none⟩=some (.int .i64 x.state))):=fun W hW=>HD.out W (HB.out.trans (hW.mono HB.out.size))
  clear t0 t1 t2 t3 t4 t5 t6 t7;refine zax 19 [(0,true),(1,true),(2,true),(3,true),(4,true),(5,true),(6,true),(7,true),(8,true),(9,true),(10,true),(11,true),(12,true),(13,true),(16,true),(17,true),(14,false),(15,false),(18,false)] (fun W=>W.cell? ⟨w.heap.size,0,none⟩=some (.string x.id)∧W.cell? ⟨w.heap.size,1,none⟩=some (.string x.applicant)∧W.cell? ⟨w.heap.size,2,none⟩=some (.string x.partner)∧W.cell? ⟨w.heap.size,3,none⟩=some (.int .i64 x.low)∧W.cell? ⟨w.heap.size,4,none⟩=some (.int .i64 x.high)∧W.cell? ⟨w.heap.size,5,none⟩=some (.int .i64 x.filed)∧W.cell? ⟨w.heap.size,6,none⟩=some (.int .i64 x.deadline)∧W.cell? ⟨w.heap.size,7,none⟩=some (.int .i64 x.state)) (by kernel_rfl) (by kernel_rfl) (HS2.out _ (zak _)) (fun hHeld=>?_);refine zaa (v:=?_) rfl (fun _ _ _ h=>h) ?_ ?_
  rotate_left
  ·(intro W hSW;(try dsimp only at hSW);(go_simp<;>with_reducible rfl))
  (try simp only[Act.put,List.setIfInBounds_toArray,List.set_cons_zero,List.set_cons_succ])
  refine zaa (v:=?_) rfl (fun _ _ _ h=>h) ?_ ?_
  rotate_left
  ·(intro W hSW;(try dsimp only at hSW);(go_simp<;>with_reducible rfl))
  (try simp only[Act.put,List.setIfInBounds_toArray,List.set_cons_zero,List.set_cons_succ])
  refine zaa (v:=?_) rfl (fun _ _ _ h=>h) ?_ ?_
  rotate_left
  ·(intro W hSW;(try dsimp only at hSW);(go_simp<;>with_reducible rfl))
  (try simp only[Act.put,List.setIfInBounds_toArray,List.set_cons_zero,List.set_cons_succ])
  refine zaa (v:=?_) rfl (fun _ _ _ h=>h) ?_ ?_
  rotate_left
  ·(intro W hSW;(try dsimp only at hSW);(go_simp<;>with_reducible rfl))
  (try simp only[Act.put,List.setIfInBounds_toArray,List.set_cons_zero,List.set_cons_succ])
  refine zaa (v:=?_) rfl (fun _ _ _ h=>h) ?_ ?_
  rotate_left
  ·(intro W hSW;(try dsimp only at hSW);(go_simp<;>with_reducible rfl))
  (try simp only[Act.put,List.setIfInBounds_toArray,List.set_cons_zero,List.set_cons_succ])
  refine zaa (v:=?_) rfl (fun _ _ _ h=>h) ?_ ?_
  rotate_left
  ·(intro W hSW;(try dsimp only at hSW);(go_simp<;>with_reducible rfl))
  (try simp only[Act.put,List.setIfInBounds_toArray,List.set_cons_zero,List.set_cons_succ])
  refine zaa (v:=?_) rfl (fun _ _ _ h=>h) ?_ ?_
  rotate_left
  ·(intro W hSW;(try dsimp only at hSW);(go_simp<;>with_reducible rfl))
  (try simp only[Act.put,List.setIfInBounds_toArray,List.set_cons_zero,List.set_cons_succ])
  refine zaa (v:=?_) rfl (fun _ _ _ h=>h) ?_ ?_
  rotate_left
  ·(intro W hSW;(try dsimp only at hSW);(go_simp<;>with_reducible rfl))
  (try simp only[Act.put,List.setIfInBounds_toArray,List.set_cons_zero,List.set_cons_succ])
  refine zaa (v:=?_) rfl (fun _ _ _ h=>h) ?_ ?_
  rotate_left
  ·(intro W hSW;(try dsimp only at hSW);(go_simp<;>with_reducible rfl))
  (try simp only[Act.put,List.setIfInBounds_toArray,List.set_cons_zero,List.set_cons_succ])
  refine zaa (v:=?_) rfl (fun _ _ _ h=>h) ?_ ?_
  rotate_left
  ·(intro W hSW;(try dsimp only at hSW);(go_simp<;>with_reducible rfl))
  (try simp only[Act.put,List.setIfInBounds_toArray,List.set_cons_zero,List.set_cons_succ])
  refine zaa (v:=?_) rfl (fun _ _ _ h=>h) ?_ ?_
  rotate_left
  ·(intro W hSW;(try dsimp only at hSW);(go_simp<;>with_reducible rfl))
  (try simp only[Act.put,List.setIfInBounds_toArray,List.set_cons_zero,List.set_cons_succ])
  refine zaa (v:=?_) rfl (fun _ _ _ h=>h) ?_ ?_
  rotate_left
  ·(intro W hSW;(try dsimp only at hSW);(go_simp<;>with_reducible rfl))
  (try simp only[Act.put,List.setIfInBounds_toArray,List.set_cons_zero,List.set_cons_succ])
  refine zaa (v:=?_) rfl (fun _ _ _ h=>h) ?_ ?_
  rotate_left
  ·(intro W hSW;(try dsimp only at hSW);(go_simp<;>with_reducible rfl))
  (try simp only[Act.put,List.setIfInBounds_toArray,List.set_cons_zero,List.set_cons_succ])
  refine zaa (v:=?_) rfl (fun _ _ _ h=>h) ?_ ?_
  rotate_left
  ·(intro W hSW;(try dsimp only at hSW);(go_simp<;>with_reducible rfl))
  (try simp only[Act.put,List.setIfInBounds_toArray,List.set_cons_zero,List.set_cons_succ])
  refine zaa (v:=?_) rfl (fun _ _ _ h=>h) ?_ ?_
  rotate_left
  ·(intro W hSW;(try dsimp only at hSW);(go_simp<;>with_reducible rfl))
  (try simp only[Act.put,List.setIfInBounds_toArray,List.set_cons_zero,List.set_cons_succ])
  refine zaa (v:=?_) rfl (fun _ _ _ h=>h) ?_ ?_
  rotate_left
  ·(intro W hSW;(try dsimp only at hSW);(go_simp<;>with_reducible rfl))
  (try simp only[Act.put,List.setIfInBounds_toArray,List.set_cons_zero,List.set_cons_succ])
  have HBD:=Lib.hid (HB.out.trans ((zak w2).mono HB.out.size));have hzd:w2.heap.size≤w2.drew.heap.size:=Nat.le_refl _;have HSD:Hid (∀ W,Below w2.drew.heap.size w2.drew W→(W.cell? ⟨w.heap.size,0,none⟩=some (.string x.id)∧W.cell? ⟨w.heap.size,1,none⟩=some (.string x.applicant)∧W.cell? ⟨w.heap.size,2,none⟩=some (.string x.partner)∧W.cell? ⟨w.heap.size,3,none⟩=some (.int .i64 x.low)∧W.cell? ⟨w.heap.size,4,none⟩=some (.int .i64 x.high)∧W.cell? ⟨w.heap.size,5,none⟩=some (.int .i64 x.filed)∧W.cell? ⟨w.heap.size,6,none⟩=some (.int .i64 x.deadline)∧W.cell? ⟨w.heap.size,7,none⟩=some (.int .i64 x.state))):=fun W hW=>HS2.out W ((zak w2).trans (hW.mono hzd))
  generalize w2.drew=w4 at *;refine zba rfl (fun K hK=>?_);go_simp;refine hK.out _ _ (HSD.out _ (zaj w4 _)) ?_;clear hK K
  (try simp only[Act.put,List.setIfInBounds_toArray,List.set_cons_zero,List.set_cons_succ])
  obtain⟨W5,hW5,b5,z5,k5⟩:=zas w4 #[.int .i64 x.low,.int .i64 x.high,.int .i64 x.filed,.int .i64 x.deadline] 2;rw[hW5];clear hW5;have HB5:=Lib.hid (HBD.out.trans (b5.mono HBD.out.size));have HS5:Hid (∀ W,Below W5.heap.size W5 W→(W.cell? ⟨w.heap.size,0,none⟩=some (.string x.id)∧W.cell? ⟨w.heap.size,1,none⟩=some (.string x.applicant)∧W.cell? ⟨w.heap.size,2,none⟩=some (.string x.partner)∧W.cell? ⟨w.heap.size,3,none⟩=some (.int .i64 x.low)∧W.cell? ⟨w.heap.size,4,none⟩=some (.int .i64 x.high)∧W.cell? ⟨w.heap.size,5,none⟩=some (.int .i64 x.filed)∧W.cell? ⟨w.heap.size,6,none⟩=some (.int .i64 x.deadline)∧W.cell? ⟨w.heap.size,7,none⟩=some (.int .i64 x.state))):=fun W hW=>HSD.out W (b5.trans (hW.mono (by omega)))
  have K5:=Lib.hid k5;clear b5 k5;refine zba rfl (fun K hK=>?_);go_simp;refine (HLT.out W5 w4.heap.size (HLW.out _ HB5.out) (by omega) K5.out).mono ?_;rintro e w6 ⟨rfl,hb6⟩;refine hK.out _ _ (HS5.out _ hb6) ?_;clear hK K
  (try simp only[Act.put,List.setIfInBounds_toArray,List.set_cons_zero,List.set_cons_succ])
  have HB6:=Lib.hid (HB5.out.trans (hb6.mono HB5.out.size));have HS6:Hid (∀ W,Below w6.heap.size w6 W→(W.cell? ⟨w.heap.size,0,none⟩=some (.string x.id)∧W.cell? ⟨w.heap.size,1,none⟩=some (.string x.applicant)∧W.cell? ⟨w.heap.size,2,none⟩=some (.string x.partner)∧W.cell? ⟨w.heap.size,3,none⟩=some (.int .i64 x.low)∧W.cell? ⟨w.heap.size,4,none⟩=some (.int .i64 x.high)∧W.cell? ⟨w.heap.size,5,none⟩=some (.int .i64 x.filed)∧W.cell? ⟨w.heap.size,6,none⟩=some (.int .i64 x.deadline)∧W.cell? ⟨w.heap.size,7,none⟩=some (.int .i64 x.state))):=fun W hW=>HS5.out W (hb6.trans (hW.mono hb6.size))
  clear hb6;refine zba rfl (fun K hK=>?_);go_simp;refine (HSN.out w6).mono ?_;rintro e w7 ⟨rfl,hb7⟩;refine hK.out _ _ (HS6.out _ hb7) ?_;clear hK K
  (try simp only[Act.put,List.setIfInBounds_toArray,List.set_cons_zero,List.set_cons_succ])
  have HB7:=Lib.hid (HB6.out.trans (hb7.mono HB6.out.size));clear hb7;refine zbj ?_;simp only[List.drop_succ_cons,List.drop_zero];go_wp2_with fail;obtain⟨W8,hW8,b8,z8,k8⟩:=zas w7 #[.string x.id,.string x.applicant,.string x.partner,.string tx,.string ts] 9;rw[hW8];clear hW8;refine (HJ.out W8 w7.heap.size (by omega) k8).mono ?_;rintro e w9 ⟨rfl,hb9⟩;have HB9:=Lib.hid (HH.out _ (HB7.out.trans ((b8.trans (hb9.mono (by omega))).mono HB7.out.size)));clear b8 k8 hb9;go_wp2;go_ret;exact⟨rfl,HB9.out⟩
theorem iReadRequest_any (s:ByteArray) (hs:s.size≤1048576) (w:World) (L:LibW w):Calls Tryz.prog 16 #[.string s] w fun e w'=>e=.returned (.tuple #[.agg #[.string ((reqR s).getD zReq).id,.string ((reqR s).getD zReq).applicant,.string ((reqR s).getD zReq).partner,.int .i64 ((reqR s).getD zReq).low,.int .i64 ((reqR s).getD zReq).high,.int .i64 ((reqR s).getD zReq).filed,.int .i64 ((reqR s).getD zReq).deadline,.int .i64 ((reqR s).getD zReq).state],.bool (reqR s).isSome])∧Below w.heap.size w w':=by
 obtain⟨W0,hW0,b0,z0,k0⟩:=zas w #[.string ⟨#[]⟩,.string ⟨#[]⟩,.string ⟨#[]⟩,.int .i64 0,.int .i64 0,.int .i64 0,.int .i64 0,.int .i64 0] 45;have HW0:=Lib.hid hW0;clear hW0;have B0:=Lib.hid b0;clear b0;have K0:=Lib.hid k0;clear k0;have HD:Hid (∀ W:World,Below W0.heap.size W0 W→(W.cell? ⟨w.heap.size,0,none⟩=some (.string ⟨#[]⟩)∧W.cell? ⟨w.heap.size,1,none⟩=some (.string ⟨#[]⟩)∧W.cell? ⟨w.heap.size,2,none⟩=some (.string ⟨#[]⟩)∧W.cell? ⟨w.heap.size,3,none⟩=some (.int .i64 0)∧W.cell? ⟨w.heap.size,4,none⟩=some (.int .i64 0)∧W.cell? ⟨w.heap.size,5,none⟩=some (.int .i64 0)∧W.cell? ⟨w.heap.size,6,none⟩=some (.int .i64 0)∧W.cell? ⟨w.heap.size,7,none⟩=some (.int .i64 0))):=fun W hW=>⟨bkC (bkB K0.out hW (by omega)) 0 rfl,bkC (bkB K0.out hW (by omega)) 1 rfl,bkC (bkB K0.out hW (by omega)) 2 rfl,bkC (bkB K0.out hW (by omega)) 3 rfl,bkC (bkB K0.out hW (by omega)) 4 rfl,bkC (bkB K0.out hW (by omega)) 5 rfl,bkC (bkB K0.out hW (by omega)) 6 rfl,bkC (bkB K0.out hW (by omega)) 7 rfl⟩
 have HB:Hid (Below W0.heap.size W0 W0):=Below.refl _ _;have HH:Hid (∀ W:World,Below W0.heap.size W0 W→Below w.heap.size w W):=fun W hW=>B0.out.trans (hW.mono (by omega))
 have HSP:Hid (∀ W,Below W0.heap.size W0 W→Calls Tryz.prog 53 #[.string s,.string ⟨#[32]⟩] W fun e w'=>∃ a cc,e=.returned (.slice a (zbf 32 s).length cc)∧Below W.heap.size W w'∧Rd w'.heap.size w' (strsT (zbf 32 s)) (.slice a (zbf 32 s).length cc)):=fun W hW=>iSplit_any s 32 hs W (L.mono (HH.out W hW))
 have hsz:∀ p ∈ zbf 32 s,p.size≤1048576:=fun p hp=>Nat.le_trans (words_size _ _ _ hp) hs
 have hwl:(zbf 32 s).length=(zar 32 (bl s)).length:=List.length_map _
 by_cases h2:(zar 32 (bl s)).length=5
 case neg =>
  have HE:Hid (reqR s=none):=by
   show _=_
   unfold reqR
   split
   ·rename_i pa pb pc n t e_;rw[e_] at h2;exact absurd rfl h2
   ·rfl
  rw[← hwl] at h2;generalize zbf 32 s=ws at *;have hq:((ws.length:Int) != 5)=true:=by rw[bne_iff_ne];omega
  have hq2:((ws.length:Int) == 5)=false:=by rw[beq_eq_false_iff_ne];omega
  clear hwl h2 hsz;go_enter Tryz.func16,Tryz.ntmps16;go_upto_region 1 with (fail);rw[HW0.out];obtain⟨t0,t1,t2,t3,t4,t5,t6,t7⟩:=HD.out _ HB.out;go_wp2_with fail;refine (HSP.out _ HB.out).mono ?_;rintro e w2 ⟨a,c,rfl,hb2,hr2⟩;clear hr2;have HB2:=Lib.hid (HB.out.trans (hb2.mono HB.out.size));clear hb2 t0 t1 t2 t3 t4 t5 t6 t7;go_upto_region 2 with (fail);obtain⟨W3,hW3,b3,z3,k3⟩:=zas w2 #[.slice a ws.length c] 67;rw[hW3];clear hW3;have HB3:=Lib.hid (HB2.out.trans (b3.mono HB2.out.size));have wx:=bkC (v:=.slice a ws.length c) k3 0 rfl;clear b3 k3;obtain⟨t0,t1,t2,t3,t4,t5,t6,t7⟩:=HD.out _ HB3.out;have gz:=bkF (bkB K0.out HB3.out (by omega));have BF:=Lib.hid (HH.out _ HB3.out);go_wp2;refine bodyPost_ret (v:=.tuple #[.agg #[.string ⟨#[]⟩,.string ⟨#[]⟩,.string ⟨#[]⟩,.int .i64 0,.int .i64 0,.int .i64 0,.int .i64 0,.int .i64 0],.bool false]) (by simp[results,Tryz.results16,go_sem, *]) rfl ?_;exact⟨by rw[HE.out];rfl,(bset (bset (bset (bset (bset (bset (bset (bset BF.out (by omega) 0 _) (by omega) 1 _) (by omega) 2 _) (by omega) 3 _) (by omega) 4 _) (by omega) 5 _) (by omega) 6 _) (by omega) 7 _)⟩
 obtain⟨pa,pb,pc,n,t,hab⟩:∃ pa pb pc n t,zar 32 (bl s) = [pa,pb,pc,n,t]:=by
  match h:zar 32 (bl s),h2 with
  | [pa,pb,pc,n,t],_=>exact⟨pa,pb,pc,n,t,rfl⟩
 have hwd:zbf 32 s = [ofL pa,ofL pb,ofL pc,ofL n,ofL t]:=words_of _ _ _ hab;rw[hwd] at HSP hsz;have hspa:(ofL pa).size≤1048576:=hsz (ofL pa) (by simp);have hspb:(ofL pb).size≤1048576:=hsz (ofL pb) (by simp);have hspc:(ofL pc).size≤1048576:=hsz (ofL pc) (by simp);have hsn:(ofL n).size≤1048576:=hsz (ofL n) (by simp);have hst:(ofL t).size≤1048576:=hsz (ofL t) (by simp);have HRN:Hid (∀ W,Below W0.heap.size W0 W→Calls Tryz.prog 54 #[.string (ofL n),.int .i64 4] W fun e w'=>∃ a c,e=.returned (.tuple #[.slice a 4 c,.bool (numsB n 4)])∧Below W.heap.size W w'∧Rd w'.heap.size w' (intsT (numsR n 4)) (.slice a 4 c)):=fun W hW=>by
  have:=readNumbers4_any (ofL n) hsn W (L.mono (HH.out W hW));rw[bl_ofL] at this;exact this
 obtain⟨x,y,z,u,hxy⟩:=numsR_four n;rw[hxy] at HRN;have HLS:Hid (∀ (W:World) (wb b1 off c1:Nat),W.cell? ⟨wb,0,none⟩=some (.slice (some ⟨b1,off,none⟩) 5 c1)→W.cell? ⟨b1,off+4,none⟩=some (.string (ofL t))→Calls Tryz.prog 55 #[.int .i64 1,.int .i64 5,.func (.func 56) #[] #[.pointer (some ⟨wb,0,none⟩)]] W fun e w'=>e=.returned (.tuple #[.int .i64 (zal t),.bool (decide (zal t≠0))])∧Below W.heap.size W w'):=fun W wb b1 off c1 c0 c4=>leastState_any wb b1 off c1 t W c0 c4
 have HTX:Hid (∀ W,Below W0.heap.size W0 W→Calls Tryz.prog 17 #[.agg #[.string (ofL pa),.string (ofL pb),.string (ofL pc),.int .i64 x,.int .i64 y,.int .i64 z,.int .i64 u,.int .i64 (zal t)]] W fun e w'=>e=.returned (.string (zbb ⟨ofL pa,ofL pb,ofL pc,x,y,z,u,zal t⟩))∧Below W.heap.size W w'):=fun W hW=>requestText_any ⟨ofL pa,ofL pb,ofL pc,x,y,z,u,zal t⟩ hspa hspb hspc W (L.mono (HH.out W hW))
 clear L hwl h2 hwd hsz
 cases hpr:zcu n 4 with
 | none =>
  have HE:Hid (reqR s=none):=by show _=_;unfold reqR;rw[hab];simp[hpr]
  rw[numsB_none hpr] at HRN;clear hpr hab hspa hspb hspc hsn hst HTX hxy;generalize decide (zal t≠0)=okb at *;generalize zal t=k at *;generalize ofL pa=spa at *;generalize ofL pb=spb at *;generalize ofL pc=spc at *;go_enter Tryz.func16,Tryz.ntmps16;go_upto_region 1 with (fail);rw[HW0.out];obtain⟨t0,t1,t2,t3,t4,t5,t6,t7⟩:=HD.out _ HB.out;go_wp2_with fail;refine (HSP.out _ HB.out).mono ?_;rintro e w2 ⟨a1,c1,rfl,hb2,hr2⟩;obtain⟨_,_,e1,_,_,hcl⟩:=Rd.strs hr2;injection e1 with e1 _ e3;subst e1 e3;obtain⟨b1,off,ea,hbb,hat⟩:=hcl (by simp);subst ea;have x0:=hat 0 (by simp);have x1:=hat 1 (by simp);have x2:=hat 2 (by simp);have x3:=hat 3 (by simp);have x4:=hat 4 (by simp);simp only[List.getElem_cons_zero,List.getElem_cons_succ,Nat.add_zero] at x0 x1 x2 x3 x4;have HBX:=Lib.hid (HB.out.trans (hb2.mono HB.out.size));clear hb2 hr2 hcl hat t0 t1 t2 t3 t4 t5 t6 t7;go_upto_region 2 with (fail);obtain⟨WB,hWB,bB,zB,kB⟩:=zas w2 #[.slice (some ⟨b1,off,none⟩) 5 c1] 67;rw[hWB];clear hWB;have HBY:=Lib.hid (HBX.out.trans (bB.mono HBX.out.size));have wx:=bkC (v:=.slice (some ⟨b1,off,none⟩) 5 c1) kB 0 rfl;replace x0:=(bat bB b1 _ hbb).trans x0;replace x1:=(bat bB b1 _ hbb).trans x1;replace x2:=(bat bB b1 _ hbb).trans x2;replace x3:=(bat bB b1 _ hbb).trans x3;replace x4:=(bat bB b1 _ hbb).trans x4;have hbY:b1<WB.heap.size:=by omega
  have hwY:w2.heap.size<WB.heap.size:=by omega
  clear bB kB;go_wp2_with fail;refine (HRN.out _ HBY.out).mono ?_;rintro e w3 ⟨a2,c2,rfl,hb3,hr3⟩;obtain⟨_,_,e1,_,_,hcl⟩:=Rd.ints hr3;injection e1 with e1 _ e3;subst e1 e3;obtain⟨b2,of2,ea,hbb2,hat⟩:=hcl (by simp);subst ea;have y0:=hat 0 (by simp);have y1:=hat 1 (by simp);have y2:=hat 2 (by simp);have y3:=hat 3 (by simp);simp only[List.getElem_cons_zero,List.getElem_cons_succ,Nat.add_zero] at y0 y1 y2 y3;have z3:=hb3.size;have hc0:=(bat hb3 b1 _ hbY).trans x0;have hc1:=(bat hb3 b1 _ hbY).trans x1;have hc2:=(bat hb3 b1 _ hbY).trans x2;have hc3:=(bat hb3 b1 _ hbY).trans x3;have hc4:=(bat hb3 b1 _ hbY).trans x4;have hwx:=(bat hb3 _ _ hwY).trans wx;have HB3:=Lib.hid (HBY.out.trans (hb3.mono HBY.out.size));have HS3:Hid (∀ W,Below w3.heap.size w3 W→(W.cell? ⟨w2.heap.size,0,none⟩=some (.slice (some ⟨b1,off,none⟩) 5 c1)∧W.cell? ⟨b1,off,none⟩=some (.string spa)∧W.cell? ⟨b1,off+1,none⟩=some (.string spb)∧W.cell? ⟨b1,off+2,none⟩=some (.string spc)∧W.cell? ⟨b2,of2,none⟩=some (.int .i64 x)∧W.cell? ⟨b2,of2+1,none⟩=some (.int .i64 y)∧W.cell? ⟨b2,of2+2,none⟩=some (.int .i64 z)∧W.cell? ⟨b2,of2+3,none⟩=some (.int .i64 u))):=fun W hW=>⟨(bat hW _ _ (by omega)).trans hwx,(bat hW b1 _ (by omega)).trans hc0,(bat hW b1 _ (by omega)).trans hc1,(bat hW b1 _ (by omega)).trans hc2,(bat hW b2 _ (by omega)).trans y0,(bat hW b2 _ (by omega)).trans y1,(bat hW b2 _ (by omega)).trans y2,(bat hW b2 _ (by omega)).trans y3⟩
  have HT3:Hid (∀ W,Below w3.heap.size w3 W→W.cell? ⟨b1,off+4,none⟩=some (.string (ofL t))):=fun W hW=>(bat hW b1 _ (by omega)).trans hc4
  clear hb3 hr3 hcl hat hc0 hc1 hc2 hc3 hc4 y0 y1 y2 y3 x0 x1 x2 x3 x4 hwx wx;have hbz:b1<w3.heap.size:=by omega
  go_wp2_with fail;refine (HLS.out w3 w2.heap.size b1 off c1 (HS3.out _ (Below.refl _ _)).1 (HT3.out _ (Below.refl _ _))).mono ?_;rintro e w4 ⟨rfl,hb4⟩;have HB4:=Lib.hid (HB3.out.trans (hb4.mono HB3.out.size));have z4:=hb4.size;have HS4:Hid (∀ W,Below w4.heap.size w4 W→(W.cell? ⟨w2.heap.size,0,none⟩=some (.slice (some ⟨b1,off,none⟩) 5 c1)∧W.cell? ⟨b1,off,none⟩=some (.string spa)∧W.cell? ⟨b1,off+1,none⟩=some (.string spb)∧W.cell? ⟨b1,off+2,none⟩=some (.string spc)∧W.cell? ⟨b2,of2,none⟩=some (.int .i64 x)∧W.cell? ⟨b2,of2+1,none⟩=some (.int .i64 y)∧W.cell? ⟨b2,of2+2,none⟩=some (.int .i64 z)∧W.cell? ⟨b2,of2+3,none⟩=some (.int .i64 u))):=fun W hW=>HS3.out W (hb4.trans (hW.mono z4))
  clear hb4 HT3;go_upto_region 6 with (fail);refine zax 24 [(0,true),(1,true),(2,true),(3,true),(4,true),(5,true),(6,true),(7,true),(8,true),(9,true),(10,true),(11,true),(12,true),(13,true),(14,true),(15,true),(16,true),(17,true),(18,true),(19,true),(20,true),(21,true),(22,true),(23,false)] (fun W=>W.cell? ⟨w2.heap.size,0,none⟩=some (.slice (some ⟨b1,off,none⟩) 5 c1)∧W.cell? ⟨b1,off,none⟩=some (.string spa)∧W.cell? ⟨b1,off+1,none⟩=some (.string spb)∧W.cell? ⟨b1,off+2,none⟩=some (.string spc)∧W.cell? ⟨b2,of2,none⟩=some (.int .i64 x)∧W.cell? ⟨b2,of2+1,none⟩=some (.int .i64 y)∧W.cell? ⟨b2,of2+2,none⟩=some (.int .i64 z)∧W.cell? ⟨b2,of2+3,none⟩=some (.int .i64 u)) (by kernel_rfl) (by kernel_rfl) (HS4.out _ (zak _)) (fun hHeld=>?_);refine zaa (v:=?_) rfl (fun _ _ _ h=>h) ?_ ?_
  rotate_left
  ·(intro W hSW;(try dsimp only at hSW);(go_simp<;>with_reducible rfl))
  (try simp only[Act.put,List.setIfInBounds_toArray,List.set_cons_zero,List.set_cons_succ])
  refine zaa (v:=?_) rfl (fun _ _ _ h=>h) ?_ ?_
  rotate_left
  ·(intro W hSW;(try dsimp only at hSW);(go_simp<;>with_reducible rfl))
  (try simp only[Act.put,List.setIfInBounds_toArray,List.set_cons_zero,List.set_cons_succ])
  refine zaa (v:=?_) rfl (fun _ _ _ h=>h) ?_ ?_
  rotate_left
  ·(intro W hSW;(try dsimp only at hSW);(go_simp<;>with_reducible rfl))
  (try simp only[Act.put,List.setIfInBounds_toArray,List.set_cons_zero,List.set_cons_succ])
  refine zaa (v:=?_) rfl (fun _ _ _ h=>h) ?_ ?_
  rotate_left
  ·(intro W hSW;(try dsimp only at hSW);(go_simp<;>with_reducible rfl))
  (try simp only[Act.put,List.setIfInBounds_toArray,List.set_cons_zero,List.set_cons_succ])
  refine zaa (v:=?_) rfl (fun _ _ _ h=>h) ?_ ?_
  rotate_left
  ·(intro W hSW;(try dsimp only at hSW);(go_simp<;>with_reducible rfl))
  (try simp only[Act.put,List.setIfInBounds_toArray,List.set_cons_zero,List.set_cons_succ])
  refine zaa (v:=?_) rfl (fun _ _ _ h=>h) ?_ ?_
  rotate_left
  ·(intro W hSW;(try dsimp only at hSW);(go_simp<;>with_reducible rfl))
  (try simp only[Act.put,List.setIfInBounds_toArray,List.set_cons_zero,List.set_cons_succ])
  refine zaa (v:=?_) rfl (fun _ _ _ h=>h) ?_ ?_
  rotate_left
  ·(intro W hSW;(try dsimp only at hSW);(go_simp<;>with_reducible rfl))
  (try simp only[Act.put,List.setIfInBounds_toArray,List.set_cons_zero,List.set_cons_succ])
  refine zaa (v:=?_) rfl (fun _ _ _ h=>h) ?_ ?_
  rotate_left
  ·(intro W hSW;(try dsimp only at hSW);(go_simp<;>with_reducible rfl))
  (try simp only[Act.put,List.setIfInBounds_toArray,List.set_cons_zero,List.set_cons_succ])
  refine zaa (v:=?_) rfl (fun _ _ _ h=>h) ?_ ?_
  rotate_left
  ·(intro W hSW;(try dsimp only at hSW);(go_simp<;>with_reducible rfl))
  (try simp only[Act.put,List.setIfInBounds_toArray,List.set_cons_zero,List.set_cons_succ])
  refine zaa (v:=?_) rfl (fun _ _ _ h=>h) ?_ ?_
  rotate_left
  ·(intro W hSW;(try dsimp only at hSW);(go_simp<;>with_reducible rfl))
  (try simp only[Act.put,List.setIfInBounds_toArray,List.set_cons_zero,List.set_cons_succ])
  refine zaa (v:=?_) rfl (fun _ _ _ h=>h) ?_ ?_
  rotate_left
  ·(intro W hSW;(try dsimp only at hSW);(go_simp<;>with_reducible rfl))
  (try simp only[Act.put,List.setIfInBounds_toArray,List.set_cons_zero,List.set_cons_succ])
  refine zaa (v:=?_) rfl (fun _ _ _ h=>h) ?_ ?_
  rotate_left
  ·(intro W hSW;(try dsimp only at hSW);(go_simp<;>with_reducible rfl))
  (try simp only[Act.put,List.setIfInBounds_toArray,List.set_cons_zero,List.set_cons_succ])
  refine zaa (v:=?_) rfl (fun _ _ _ h=>h) ?_ ?_
  rotate_left
  ·(intro W hSW;(try dsimp only at hSW);(go_simp<;>with_reducible rfl))
  (try simp only[Act.put,List.setIfInBounds_toArray,List.set_cons_zero,List.set_cons_succ])
  refine zaa (v:=?_) rfl (fun _ _ _ h=>h) ?_ ?_
  rotate_left
  ·(intro W hSW;(try dsimp only at hSW);(go_simp<;>with_reducible rfl))
  (try simp only[Act.put,List.setIfInBounds_toArray,List.set_cons_zero,List.set_cons_succ])
  refine zaa (v:=?_) rfl (fun _ _ _ h=>h) ?_ ?_
  rotate_left
  ·(intro W hSW;(try dsimp only at hSW);(go_simp<;>with_reducible rfl))
  (try simp only[Act.put,List.setIfInBounds_toArray,List.set_cons_zero,List.set_cons_succ])
  refine zaa (v:=?_) rfl (fun _ _ _ h=>h) ?_ ?_
  rotate_left
  ·(intro W hSW;(try dsimp only at hSW);(go_simp<;>with_reducible rfl))
  (try simp only[Act.put,List.setIfInBounds_toArray,List.set_cons_zero,List.set_cons_succ])
  refine zaa (v:=?_) rfl (fun _ _ _ h=>h) ?_ ?_
  rotate_left
  ·(intro W hSW;(try dsimp only at hSW);(go_simp<;>with_reducible rfl))
  (try simp only[Act.put,List.setIfInBounds_toArray,List.set_cons_zero,List.set_cons_succ])
  refine zaa (v:=?_) rfl (fun _ _ _ h=>h) ?_ ?_
  rotate_left
  ·(intro W hSW;(try dsimp only at hSW);(go_simp<;>with_reducible rfl))
  (try simp only[Act.put,List.setIfInBounds_toArray,List.set_cons_zero,List.set_cons_succ])
  refine zaa (v:=?_) rfl (fun _ _ _ h=>h) ?_ ?_
  rotate_left
  ·(intro W hSW;(try dsimp only at hSW);(go_simp<;>with_reducible rfl))
  (try simp only[Act.put,List.setIfInBounds_toArray,List.set_cons_zero,List.set_cons_succ])
  refine zaa (v:=?_) rfl (fun _ _ _ h=>h) ?_ ?_
  rotate_left
  ·(intro W hSW;(try dsimp only at hSW);(go_simp<;>with_reducible rfl))
  (try simp only[Act.put,List.setIfInBounds_toArray,List.set_cons_zero,List.set_cons_succ])
  refine zaa (v:=?_) rfl (fun _ _ _ h=>h) ?_ ?_
  rotate_left
  ·(intro W hSW;(try dsimp only at hSW);(go_simp<;>with_reducible rfl))
  (try simp only[Act.put,List.setIfInBounds_toArray,List.set_cons_zero,List.set_cons_succ])
  refine zaa (v:=?_) rfl (fun _ _ _ h=>h) ?_ ?_
  rotate_left
  ·(intro W hSW;(try dsimp only at hSW);(go_simp<;>with_reducible rfl))
  (try simp only[Act.put,List.setIfInBounds_toArray,List.set_cons_zero,List.set_cons_succ])
  refine zaa (v:=?_) rfl (fun _ _ _ h=>h) ?_ ?_
  rotate_left
  ·(intro W hSW;(try dsimp only at hSW);(go_simp<;>with_reducible rfl))
  (try simp only[Act.put,List.setIfInBounds_toArray,List.set_cons_zero,List.set_cons_succ])
  have HBD:=Lib.hid (HB4.out.trans ((zak w4).mono HB4.out.size));have hzd:w4.heap.size≤w4.drew.heap.size:=Nat.le_refl _;have HSD:Hid (∀ W,Below w4.drew.heap.size w4.drew W→(W.cell? ⟨w2.heap.size,0,none⟩=some (.slice (some ⟨b1,off,none⟩) 5 c1)∧W.cell? ⟨b1,off,none⟩=some (.string spa)∧W.cell? ⟨b1,off+1,none⟩=some (.string spb)∧W.cell? ⟨b1,off+2,none⟩=some (.string spc)∧W.cell? ⟨b2,of2,none⟩=some (.int .i64 x)∧W.cell? ⟨b2,of2+1,none⟩=some (.int .i64 y)∧W.cell? ⟨b2,of2+2,none⟩=some (.int .i64 z)∧W.cell? ⟨b2,of2+3,none⟩=some (.int .i64 u))):=fun W hW=>HS4.out W ((zak w4).trans (hW.mono hzd))
  have hbzd:b1<w4.drew.heap.size:=Nat.lt_of_lt_of_le (Nat.lt_of_lt_of_le hbz z4) hzd;generalize w4.drew=w5 at *;refine zba rfl (fun K hK=>?_);go_simp;refine hK.out _ _ (HSD.out _ (zaj w5 _)) ?_;clear hK K
  (try simp only[Act.put,List.setIfInBounds_toArray,List.set_cons_zero,List.set_cons_succ])
  refine zbj ?_;simp only[List.drop_succ_cons,List.drop_zero];go_upto_region 7 with (fail);obtain⟨W5,hW5,b5,z5,k5⟩:=zas w5 #[.string spa,.string spb,.string spc,.int .i64 x,.int .i64 y,.int .i64 z,.int .i64 u,.int .i64 k] 45;rw[hW5];clear hW5;have HB5:=Lib.hid (HBD.out.trans (b5.mono HBD.out.size));have zb5:=HBD.out.size;have K5:=Lib.hid k5;clear b5 k5;obtain⟨t0,t1,t2,t3,t4,t5,t6,t7⟩:=HD.out _ HB5.out;have gz:=bkF (bkB K0.out HB5.out (by omega));have q0:=bkC (v:=.string spa) K5.out 0 rfl;have q1:=bkC (v:=.string spb) K5.out 1 rfl;have q2:=bkC (v:=.string spc) K5.out 2 rfl;have q3:=bkC (v:=.int .i64 x) K5.out 3 rfl;have q4:=bkC (v:=.int .i64 y) K5.out 4 rfl;have q5:=bkC (v:=.int .i64 z) K5.out 5 rfl;have q6:=bkC (v:=.int .i64 u) K5.out 6 rfl;have q7:=bkC (v:=.int .i64 k) K5.out 7 rfl;have BF:=Lib.hid (HH.out _ HB5.out);go_wp2_with fail;refine bodyPost_ret (v:=.tuple #[.agg #[.string ⟨#[]⟩,.string ⟨#[]⟩,.string ⟨#[]⟩,.int .i64 0,.int .i64 0,.int .i64 0,.int .i64 0,.int .i64 0],.bool false]) (by simp[results,Tryz.results16,go_sem, *]) rfl ?_;exact⟨by rw[HE.out];rfl,(bset (bset (bset (bset (bset (bset (bset (bset BF.out (by omega) 0 _) (by omega) 1 _) (by omega) 2 _) (by omega) 3 _) (by omega) 4 _) (by omega) 5 _) (by omega) 6 _) (by omega) 7 _)⟩
 | some vs =>
  obtain⟨hn1,hn2⟩:=numsR_some hpr;obtain rfl:vs = [x,y,z,u]:=by rw[← hn1,hxy]
  rw[hn2] at HRN;clear hn1 hn2 hxy
  by_cases h0:zal t=0
  ·have hv:¬ reqB ⟨ofL pa,ofL pb,ofL pc,x,y,z,u,zal t⟩=true:=fun h=>by have:=(reqB_state h).1;dsimp only at this;omega
   have HE:Hid (reqR s=none):=by show _=_;unfold reqR;rw[hab];simp[hpr,hv]
   rw[show decide (zal t≠0)=false from decide_eq_false (fun h=>h h0)] at HLS;clear hpr hab hspa hspb hspc hsn hst HTX h0 hv;generalize zal t=k at *;generalize ofL pa=spa at *;generalize ofL pb=spb at *;generalize ofL pc=spc at *;go_enter Tryz.func16,Tryz.ntmps16;go_upto_region 1 with (fail);rw[HW0.out];obtain⟨t0,t1,t2,t3,t4,t5,t6,t7⟩:=HD.out _ HB.out;go_wp2_with fail;refine (HSP.out _ HB.out).mono ?_;rintro e w2 ⟨a1,c1,rfl,hb2,hr2⟩;obtain⟨_,_,e1,_,_,hcl⟩:=Rd.strs hr2;injection e1 with e1 _ e3;subst e1 e3;obtain⟨b1,off,ea,hbb,hat⟩:=hcl (by simp);subst ea;have x0:=hat 0 (by simp);have x1:=hat 1 (by simp);have x2:=hat 2 (by simp);have x3:=hat 3 (by simp);have x4:=hat 4 (by simp);simp only[List.getElem_cons_zero,List.getElem_cons_succ,Nat.add_zero] at x0 x1 x2 x3 x4;have HBX:=Lib.hid (HB.out.trans (hb2.mono HB.out.size));clear hb2 hr2 hcl hat t0 t1 t2 t3 t4 t5 t6 t7;go_upto_region 2 with (fail);obtain⟨WB,hWB,bB,zB,kB⟩:=zas w2 #[.slice (some ⟨b1,off,none⟩) 5 c1] 67;rw[hWB];clear hWB;have HBY:=Lib.hid (HBX.out.trans (bB.mono HBX.out.size));have wx:=bkC (v:=.slice (some ⟨b1,off,none⟩) 5 c1) kB 0 rfl;replace x0:=(bat bB b1 _ hbb).trans x0;replace x1:=(bat bB b1 _ hbb).trans x1;replace x2:=(bat bB b1 _ hbb).trans x2;replace x3:=(bat bB b1 _ hbb).trans x3;replace x4:=(bat bB b1 _ hbb).trans x4;have hbY:b1<WB.heap.size:=by omega
   have hwY:w2.heap.size<WB.heap.size:=by omega
   clear bB kB;go_wp2_with fail;refine (HRN.out _ HBY.out).mono ?_;rintro e w3 ⟨a2,c2,rfl,hb3,hr3⟩;obtain⟨_,_,e1,_,_,hcl⟩:=Rd.ints hr3;injection e1 with e1 _ e3;subst e1 e3;obtain⟨b2,of2,ea,hbb2,hat⟩:=hcl (by simp);subst ea;have y0:=hat 0 (by simp);have y1:=hat 1 (by simp);have y2:=hat 2 (by simp);have y3:=hat 3 (by simp);simp only[List.getElem_cons_zero,List.getElem_cons_succ,Nat.add_zero] at y0 y1 y2 y3;have z3:=hb3.size;have hc0:=(bat hb3 b1 _ hbY).trans x0;have hc1:=(bat hb3 b1 _ hbY).trans x1;have hc2:=(bat hb3 b1 _ hbY).trans x2;have hc3:=(bat hb3 b1 _ hbY).trans x3;have hc4:=(bat hb3 b1 _ hbY).trans x4;have hwx:=(bat hb3 _ _ hwY).trans wx;have HB3:=Lib.hid (HBY.out.trans (hb3.mono HBY.out.size));have HS3:Hid (∀ W,Below w3.heap.size w3 W→(W.cell? ⟨w2.heap.size,0,none⟩=some (.slice (some ⟨b1,off,none⟩) 5 c1)∧W.cell? ⟨b1,off,none⟩=some (.string spa)∧W.cell? ⟨b1,off+1,none⟩=some (.string spb)∧W.cell? ⟨b1,off+2,none⟩=some (.string spc)∧W.cell? ⟨b2,of2,none⟩=some (.int .i64 x)∧W.cell? ⟨b2,of2+1,none⟩=some (.int .i64 y)∧W.cell? ⟨b2,of2+2,none⟩=some (.int .i64 z)∧W.cell? ⟨b2,of2+3,none⟩=some (.int .i64 u))):=fun W hW=>⟨(bat hW _ _ (by omega)).trans hwx,(bat hW b1 _ (by omega)).trans hc0,(bat hW b1 _ (by omega)).trans hc1,(bat hW b1 _ (by omega)).trans hc2,(bat hW b2 _ (by omega)).trans y0,(bat hW b2 _ (by omega)).trans y1,(bat hW b2 _ (by omega)).trans y2,(bat hW b2 _ (by omega)).trans y3⟩
   have HT3:Hid (∀ W,Below w3.heap.size w3 W→W.cell? ⟨b1,off+4,none⟩=some (.string (ofL t))):=fun W hW=>(bat hW b1 _ (by omega)).trans hc4
   clear hb3 hr3 hcl hat hc0 hc1 hc2 hc3 hc4 y0 y1 y2 y3 x0 x1 x2 x3 x4 hwx wx;have hbz:b1<w3.heap.size:=by omega
   go_wp2_with fail;refine (HLS.out w3 w2.heap.size b1 off c1 (HS3.out _ (Below.refl _ _)).1 (HT3.out _ (Below.refl _ _))).mono ?_;rintro e w4 ⟨rfl,hb4⟩;have HB4:=Lib.hid (HB3.out.trans (hb4.mono HB3.out.size));have z4:=hb4.size;have HS4:Hid (∀ W,Below w4.heap.size w4 W→(W.cell? ⟨w2.heap.size,0,none⟩=some (.slice (some ⟨b1,off,none⟩) 5 c1)∧W.cell? ⟨b1,off,none⟩=some (.string spa)∧W.cell? ⟨b1,off+1,none⟩=some (.string spb)∧W.cell? ⟨b1,off+2,none⟩=some (.string spc)∧W.cell? ⟨b2,of2,none⟩=some (.int .i64 x)∧W.cell? ⟨b2,of2+1,none⟩=some (.int .i64 y)∧W.cell? ⟨b2,of2+2,none⟩=some (.int .i64 z)∧W.cell? ⟨b2,of2+3,none⟩=some (.int .i64 u))):=fun W hW=>HS3.out W (hb4.trans (hW.mono z4))
   clear hb4 HT3;go_upto_region 6 with (fail);refine zax 24 [(0,true),(1,true),(2,true),(3,true),(4,true),(5,true),(6,true),(7,true),(8,true),(9,true),(10,true),(11,true),(12,true),(13,true),(14,true),(15,true),(16,true),(17,true),(18,true),(19,true),(20,true),(21,true),(22,true),(23,false)] (fun W=>W.cell? ⟨w2.heap.size,0,none⟩=some (.slice (some ⟨b1,off,none⟩) 5 c1)∧W.cell? ⟨b1,off,none⟩=some (.string spa)∧W.cell? ⟨b1,off+1,none⟩=some (.string spb)∧W.cell? ⟨b1,off+2,none⟩=some (.string spc)∧W.cell? ⟨b2,of2,none⟩=some (.int .i64 x)∧W.cell? ⟨b2,of2+1,none⟩=some (.int .i64 y)∧W.cell? ⟨b2,of2+2,none⟩=some (.int .i64 z)∧W.cell? ⟨b2,of2+3,none⟩=some (.int .i64 u)) (by kernel_rfl) (by kernel_rfl) (HS4.out _ (zak _)) (fun hHeld=>?_);refine zaa (v:=?_) rfl (fun _ _ _ h=>h) ?_ ?_
   rotate_left
   ·(intro W hSW;(try dsimp only at hSW);(go_simp<;>with_reducible rfl))
   (try simp only[Act.put,List.setIfInBounds_toArray,List.set_cons_zero,List.set_cons_succ])
   refine zaa (v:=?_) rfl (fun _ _ _ h=>h) ?_ ?_
   rotate_left
   ·(intro W hSW;(try dsimp only at hSW);(go_simp<;>with_reducible rfl))
   (try simp only[Act.put,List.setIfInBounds_toArray,List.set_cons_zero,List.set_cons_succ])
   refine zaa (v:=?_) rfl (fun _ _ _ h=>h) ?_ ?_
   rotate_left
   ·(intro W hSW;(try dsimp only at hSW);(go_simp<;>with_reducible rfl))
   (try simp only[Act.put,List.setIfInBounds_toArray,List.set_cons_zero,List.set_cons_succ])
   refine zaa (v:=?_) rfl (fun _ _ _ h=>h) ?_ ?_
   rotate_left
   ·(intro W hSW;(try dsimp only at hSW);(go_simp<;>with_reducible rfl))
   (try simp only[Act.put,List.setIfInBounds_toArray,List.set_cons_zero,List.set_cons_succ])
   refine zaa (v:=?_) rfl (fun _ _ _ h=>h) ?_ ?_
   rotate_left
   ·(intro W hSW;(try dsimp only at hSW);(go_simp<;>with_reducible rfl))
   (try simp only[Act.put,List.setIfInBounds_toArray,List.set_cons_zero,List.set_cons_succ])
   refine zaa (v:=?_) rfl (fun _ _ _ h=>h) ?_ ?_
   rotate_left
   ·(intro W hSW;(try dsimp only at hSW);(go_simp<;>with_reducible rfl))
   (try simp only[Act.put,List.setIfInBounds_toArray,List.set_cons_zero,List.set_cons_succ])
   refine zaa (v:=?_) rfl (fun _ _ _ h=>h) ?_ ?_
   rotate_left
   ·(intro W hSW;(try dsimp only at hSW);(go_simp<;>with_reducible rfl))
   (try simp only[Act.put,List.setIfInBounds_toArray,List.set_cons_zero,List.set_cons_succ])
   refine zaa (v:=?_) rfl (fun _ _ _ h=>h) ?_ ?_
   rotate_left
   ·(intro W hSW;(try dsimp only at hSW);(go_simp<;>with_reducible rfl))
   (try simp only[Act.put,List.setIfInBounds_toArray,List.set_cons_zero,List.set_cons_succ])
   refine zaa (v:=?_) rfl (fun _ _ _ h=>h) ?_ ?_
   rotate_left
   ·(intro W hSW;(try dsimp only at hSW);(go_simp<;>with_reducible rfl))
   (try simp only[Act.put,List.setIfInBounds_toArray,List.set_cons_zero,List.set_cons_succ])
   refine zaa (v:=?_) rfl (fun _ _ _ h=>h) ?_ ?_
   rotate_left
   ·(intro W hSW;(try dsimp only at hSW);(go_simp<;>with_reducible rfl))
   (try simp only[Act.put,List.setIfInBounds_toArray,List.set_cons_zero,List.set_cons_succ])
   refine zaa (v:=?_) rfl (fun _ _ _ h=>h) ?_ ?_
   rotate_left
   ·(intro W hSW;(try dsimp only at hSW);(go_simp<;>with_reducible rfl))
   (try simp only[Act.put,List.setIfInBounds_toArray,List.set_cons_zero,List.set_cons_succ])
   refine zaa (v:=?_) rfl (fun _ _ _ h=>h) ?_ ?_
   rotate_left
   ·(intro W hSW;(try dsimp only at hSW);(go_simp<;>with_reducible rfl))
   (try simp only[Act.put,List.setIfInBounds_toArray,List.set_cons_zero,List.set_cons_succ])
   refine zaa (v:=?_) rfl (fun _ _ _ h=>h) ?_ ?_
   rotate_left
   ·(intro W hSW;(try dsimp only at hSW);(go_simp<;>with_reducible rfl))
   (try simp only[Act.put,List.setIfInBounds_toArray,List.set_cons_zero,List.set_cons_succ])
   refine zaa (v:=?_) rfl (fun _ _ _ h=>h) ?_ ?_
   rotate_left
   ·(intro W hSW;(try dsimp only at hSW);(go_simp<;>with_reducible rfl))
   (try simp only[Act.put,List.setIfInBounds_toArray,List.set_cons_zero,List.set_cons_succ])
   refine zaa (v:=?_) rfl (fun _ _ _ h=>h) ?_ ?_
   rotate_left
   ·(intro W hSW;(try dsimp only at hSW);(go_simp<;>with_reducible rfl))
   (try simp only[Act.put,List.setIfInBounds_toArray,List.set_cons_zero,List.set_cons_succ])
   refine zaa (v:=?_) rfl (fun _ _ _ h=>h) ?_ ?_
   rotate_left
   ·(intro W hSW;(try dsimp only at hSW);(go_simp<;>with_reducible rfl))
   (try simp only[Act.put,List.setIfInBounds_toArray,List.set_cons_zero,List.set_cons_succ])
   refine zaa (v:=?_) rfl (fun _ _ _ h=>h) ?_ ?_
   rotate_left
   ·(intro W hSW;(try dsimp only at hSW);(go_simp<;>with_reducible rfl))
   (try simp only[Act.put,List.setIfInBounds_toArray,List.set_cons_zero,List.set_cons_succ])
   refine zaa (v:=?_) rfl (fun _ _ _ h=>h) ?_ ?_
   rotate_left
   ·(intro W hSW;(try dsimp only at hSW);(go_simp<;>with_reducible rfl))
   (try simp only[Act.put,List.setIfInBounds_toArray,List.set_cons_zero,List.set_cons_succ])
   refine zaa (v:=?_) rfl (fun _ _ _ h=>h) ?_ ?_
   rotate_left
   ·(intro W hSW;(try dsimp only at hSW);(go_simp<;>with_reducible rfl))
   (try simp only[Act.put,List.setIfInBounds_toArray,List.set_cons_zero,List.set_cons_succ])
   refine zaa (v:=?_) rfl (fun _ _ _ h=>h) ?_ ?_
   rotate_left
   ·(intro W hSW;(try dsimp only at hSW);(go_simp<;>with_reducible rfl))
   (try simp only[Act.put,List.setIfInBounds_toArray,List.set_cons_zero,List.set_cons_succ])
   refine zaa (v:=?_) rfl (fun _ _ _ h=>h) ?_ ?_
   rotate_left
   ·(intro W hSW;(try dsimp only at hSW);(go_simp<;>with_reducible rfl))
   (try simp only[Act.put,List.setIfInBounds_toArray,List.set_cons_zero,List.set_cons_succ])
   refine zaa (v:=?_) rfl (fun _ _ _ h=>h) ?_ ?_
   rotate_left
   ·(intro W hSW;(try dsimp only at hSW);(go_simp<;>with_reducible rfl))
   (try simp only[Act.put,List.setIfInBounds_toArray,List.set_cons_zero,List.set_cons_succ])
   refine zaa (v:=?_) rfl (fun _ _ _ h=>h) ?_ ?_
   rotate_left
   ·(intro W hSW;(try dsimp only at hSW);(go_simp<;>with_reducible rfl))
   (try simp only[Act.put,List.setIfInBounds_toArray,List.set_cons_zero,List.set_cons_succ])
   have HBD:=Lib.hid (HB4.out.trans ((zak w4).mono HB4.out.size));have hzd:w4.heap.size≤w4.drew.heap.size:=Nat.le_refl _;have HSD:Hid (∀ W,Below w4.drew.heap.size w4.drew W→(W.cell? ⟨w2.heap.size,0,none⟩=some (.slice (some ⟨b1,off,none⟩) 5 c1)∧W.cell? ⟨b1,off,none⟩=some (.string spa)∧W.cell? ⟨b1,off+1,none⟩=some (.string spb)∧W.cell? ⟨b1,off+2,none⟩=some (.string spc)∧W.cell? ⟨b2,of2,none⟩=some (.int .i64 x)∧W.cell? ⟨b2,of2+1,none⟩=some (.int .i64 y)∧W.cell? ⟨b2,of2+2,none⟩=some (.int .i64 z)∧W.cell? ⟨b2,of2+3,none⟩=some (.int .i64 u))):=fun W hW=>HS4.out W ((zak w4).trans (hW.mono hzd))
   have hbzd:b1<w4.drew.heap.size:=Nat.lt_of_lt_of_le (Nat.lt_of_lt_of_le hbz z4) hzd;generalize w4.drew=w5 at *;refine zba rfl (fun K hK=>?_);go_simp;refine hK.out _ _ (HSD.out _ (zaj w5 _)) ?_;clear hK K
   (try simp only[Act.put,List.setIfInBounds_toArray,List.set_cons_zero,List.set_cons_succ])
   refine zbj ?_;simp only[List.drop_succ_cons,List.drop_zero];go_upto_region 7 with (fail);obtain⟨W5,hW5,b5,z5,k5⟩:=zas w5 #[.string spa,.string spb,.string spc,.int .i64 x,.int .i64 y,.int .i64 z,.int .i64 u,.int .i64 k] 45;rw[hW5];clear hW5;have HB5:=Lib.hid (HBD.out.trans (b5.mono HBD.out.size));have zb5:=HBD.out.size;have K5:=Lib.hid k5;clear b5 k5;obtain⟨t0,t1,t2,t3,t4,t5,t6,t7⟩:=HD.out _ HB5.out;have gz:=bkF (bkB K0.out HB5.out (by omega));have q0:=bkC (v:=.string spa) K5.out 0 rfl;have q1:=bkC (v:=.string spb) K5.out 1 rfl;have q2:=bkC (v:=.string spc) K5.out 2 rfl;have q3:=bkC (v:=.int .i64 x) K5.out 3 rfl;have q4:=bkC (v:=.int .i64 y) K5.out 4 rfl;have q5:=bkC (v:=.int .i64 z) K5.out 5 rfl;have q6:=bkC (v:=.int .i64 u) K5.out 6 rfl;have q7:=bkC (v:=.int .i64 k) K5.out 7 rfl;have BF:=Lib.hid (HH.out _ HB5.out);go_wp2_with fail;refine bodyPost_ret (v:=.tuple #[.agg #[.string ⟨#[]⟩,.string ⟨#[]⟩,.string ⟨#[]⟩,.int .i64 0,.int .i64 0,.int .i64 0,.int .i64 0,.int .i64 0],.bool false]) (by simp[results,Tryz.results16,go_sem, *]) rfl ?_;exact⟨by rw[HE.out];rfl,(bset (bset (bset (bset (bset (bset (bset (bset BF.out (by omega) 0 _) (by omega) 1 _) (by omega) 2 _) (by omega) 3 _) (by omega) 4 _) (by omega) 5 _) (by omega) 6 _) (by omega) 7 _)⟩
  rw[show decide (zal t≠0)=true from decide_eq_true h0] at HLS
  by_cases hv:reqB ⟨ofL pa,ofL pb,ofL pc,x,y,z,u,zal t⟩=true
  ·have HE:Hid (reqR s=some ⟨ofL pa,ofL pb,ofL pc,x,y,z,u,zal t⟩):=by show _=_;unfold reqR;rw[hab];simp[hpr,hv]
   rw[(reqText_of hab hpr h0).2 hv] at HTX;have hq:(s.toList == s.toList)=true:=beq_iff_eq.2 rfl;have hqn:(s.toList != s.toList)=false:=by unfold bne;rw[hq];rfl
   clear hpr hab hv h0 hspa hspb hspc hsn hst;generalize zal t=k at *;generalize ofL pa=spa at *;generalize ofL pb=spb at *;generalize ofL pc=spc at *;go_enter Tryz.func16,Tryz.ntmps16;go_upto_region 1 with (fail);rw[HW0.out];obtain⟨t0,t1,t2,t3,t4,t5,t6,t7⟩:=HD.out _ HB.out;go_wp2_with fail;refine (HSP.out _ HB.out).mono ?_;rintro e w2 ⟨a1,c1,rfl,hb2,hr2⟩;obtain⟨_,_,e1,_,_,hcl⟩:=Rd.strs hr2;injection e1 with e1 _ e3;subst e1 e3;obtain⟨b1,off,ea,hbb,hat⟩:=hcl (by simp);subst ea;have x0:=hat 0 (by simp);have x1:=hat 1 (by simp);have x2:=hat 2 (by simp);have x3:=hat 3 (by simp);have x4:=hat 4 (by simp);simp only[List.getElem_cons_zero,List.getElem_cons_succ,Nat.add_zero] at x0 x1 x2 x3 x4;have HBX:=Lib.hid (HB.out.trans (hb2.mono HB.out.size));clear hb2 hr2 hcl hat t0 t1 t2 t3 t4 t5 t6 t7;go_upto_region 2 with (fail);obtain⟨WB,hWB,bB,zB,kB⟩:=zas w2 #[.slice (some ⟨b1,off,none⟩) 5 c1] 67;rw[hWB];clear hWB;have HBY:=Lib.hid (HBX.out.trans (bB.mono HBX.out.size));have wx:=bkC (v:=.slice (some ⟨b1,off,none⟩) 5 c1) kB 0 rfl;replace x0:=(bat bB b1 _ hbb).trans x0;replace x1:=(bat bB b1 _ hbb).trans x1;replace x2:=(bat bB b1 _ hbb).trans x2;replace x3:=(bat bB b1 _ hbb).trans x3;replace x4:=(bat bB b1 _ hbb).trans x4;have hbY:b1<WB.heap.size:=by omega
   have hwY:w2.heap.size<WB.heap.size:=by omega
   clear bB kB;go_wp2_with fail;refine (HRN.out _ HBY.out).mono ?_;rintro e w3 ⟨a2,c2,rfl,hb3,hr3⟩;obtain⟨_,_,e1,_,_,hcl⟩:=Rd.ints hr3;injection e1 with e1 _ e3;subst e1 e3;obtain⟨b2,of2,ea,hbb2,hat⟩:=hcl (by simp);subst ea;have y0:=hat 0 (by simp);have y1:=hat 1 (by simp);have y2:=hat 2 (by simp);have y3:=hat 3 (by simp);simp only[List.getElem_cons_zero,List.getElem_cons_succ,Nat.add_zero] at y0 y1 y2 y3;have z3:=hb3.size;have hc0:=(bat hb3 b1 _ hbY).trans x0;have hc1:=(bat hb3 b1 _ hbY).trans x1;have hc2:=(bat hb3 b1 _ hbY).trans x2;have hc3:=(bat hb3 b1 _ hbY).trans x3;have hc4:=(bat hb3 b1 _ hbY).trans x4;have hwx:=(bat hb3 _ _ hwY).trans wx;have HB3:=Lib.hid (HBY.out.trans (hb3.mono HBY.out.size));have HS3:Hid (∀ W,Below w3.heap.size w3 W→(W.cell? ⟨w2.heap.size,0,none⟩=some (.slice (some ⟨b1,off,none⟩) 5 c1)∧W.cell? ⟨b1,off,none⟩=some (.string spa)∧W.cell? ⟨b1,off+1,none⟩=some (.string spb)∧W.cell? ⟨b1,off+2,none⟩=some (.string spc)∧W.cell? ⟨b2,of2,none⟩=some (.int .i64 x)∧W.cell? ⟨b2,of2+1,none⟩=some (.int .i64 y)∧W.cell? ⟨b2,of2+2,none⟩=some (.int .i64 z)∧W.cell? ⟨b2,of2+3,none⟩=some (.int .i64 u))):=fun W hW=>⟨(bat hW _ _ (by omega)).trans hwx,(bat hW b1 _ (by omega)).trans hc0,(bat hW b1 _ (by omega)).trans hc1,(bat hW b1 _ (by omega)).trans hc2,(bat hW b2 _ (by omega)).trans y0,(bat hW b2 _ (by omega)).trans y1,(bat hW b2 _ (by omega)).trans y2,(bat hW b2 _ (by omega)).trans y3⟩
   have HT3:Hid (∀ W,Below w3.heap.size w3 W→W.cell? ⟨b1,off+4,none⟩=some (.string (ofL t))):=fun W hW=>(bat hW b1 _ (by omega)).trans hc4
   clear hb3 hr3 hcl hat hc0 hc1 hc2 hc3 hc4 y0 y1 y2 y3 x0 x1 x2 x3 x4 hwx wx;have hbz:b1<w3.heap.size:=by omega
   go_wp2_with fail;refine (HLS.out w3 w2.heap.size b1 off c1 (HS3.out _ (Below.refl _ _)).1 (HT3.out _ (Below.refl _ _))).mono ?_;rintro e w4 ⟨rfl,hb4⟩;have HB4:=Lib.hid (HB3.out.trans (hb4.mono HB3.out.size));have z4:=hb4.size;have HS4:Hid (∀ W,Below w4.heap.size w4 W→(W.cell? ⟨w2.heap.size,0,none⟩=some (.slice (some ⟨b1,off,none⟩) 5 c1)∧W.cell? ⟨b1,off,none⟩=some (.string spa)∧W.cell? ⟨b1,off+1,none⟩=some (.string spb)∧W.cell? ⟨b1,off+2,none⟩=some (.string spc)∧W.cell? ⟨b2,of2,none⟩=some (.int .i64 x)∧W.cell? ⟨b2,of2+1,none⟩=some (.int .i64 y)∧W.cell? ⟨b2,of2+2,none⟩=some (.int .i64 z)∧W.cell? ⟨b2,of2+3,none⟩=some (.int .i64 u))):=fun W hW=>HS3.out W (hb4.trans (hW.mono z4))
   clear hb4 HT3;go_upto_region 6 with (fail);refine zax 24 [(0,true),(1,true),(2,true),(3,true),(4,true),(5,true),(6,true),(7,true),(8,true),(9,true),(10,true),(11,true),(12,true),(13,true),(14,true),(15,true),(16,true),(17,true),(18,true),(19,true),(20,true),(21,true),(22,true),(23,false)] (fun W=>W.cell? ⟨w2.heap.size,0,none⟩=some (.slice (some ⟨b1,off,none⟩) 5 c1)∧W.cell? ⟨b1,off,none⟩=some (.string spa)∧W.cell? ⟨b1,off+1,none⟩=some (.string spb)∧W.cell? ⟨b1,off+2,none⟩=some (.string spc)∧W.cell? ⟨b2,of2,none⟩=some (.int .i64 x)∧W.cell? ⟨b2,of2+1,none⟩=some (.int .i64 y)∧W.cell? ⟨b2,of2+2,none⟩=some (.int .i64 z)∧W.cell? ⟨b2,of2+3,none⟩=some (.int .i64 u)) (by kernel_rfl) (by kernel_rfl) (HS4.out _ (zak _)) (fun hHeld=>?_);refine zaa (v:=?_) rfl (fun _ _ _ h=>h) ?_ ?_
   rotate_left
   ·(intro W hSW;(try dsimp only at hSW);(go_simp<;>with_reducible rfl))
   (try simp only[Act.put,List.setIfInBounds_toArray,List.set_cons_zero,List.set_cons_succ])
   refine zaa (v:=?_) rfl (fun _ _ _ h=>h) ?_ ?_
   rotate_left
   ·(intro W hSW;(try dsimp only at hSW);(go_simp<;>with_reducible rfl))
   (try simp only[Act.put,List.setIfInBounds_toArray,List.set_cons_zero,List.set_cons_succ])
   refine zaa (v:=?_) rfl (fun _ _ _ h=>h) ?_ ?_
   rotate_left
   ·(intro W hSW;(try dsimp only at hSW);(go_simp<;>with_reducible rfl))
   (try simp only[Act.put,List.setIfInBounds_toArray,List.set_cons_zero,List.set_cons_succ])
   refine zaa (v:=?_) rfl (fun _ _ _ h=>h) ?_ ?_
   rotate_left
   ·(intro W hSW;(try dsimp only at hSW);(go_simp<;>with_reducible rfl))
   (try simp only[Act.put,List.setIfInBounds_toArray,List.set_cons_zero,List.set_cons_succ])
   refine zaa (v:=?_) rfl (fun _ _ _ h=>h) ?_ ?_
   rotate_left
   ·(intro W hSW;(try dsimp only at hSW);(go_simp<;>with_reducible rfl))
   (try simp only[Act.put,List.setIfInBounds_toArray,List.set_cons_zero,List.set_cons_succ])
   refine zaa (v:=?_) rfl (fun _ _ _ h=>h) ?_ ?_
   rotate_left
   ·(intro W hSW;(try dsimp only at hSW);(go_simp<;>with_reducible rfl))
   (try simp only[Act.put,List.setIfInBounds_toArray,List.set_cons_zero,List.set_cons_succ])
   refine zaa (v:=?_) rfl (fun _ _ _ h=>h) ?_ ?_
   rotate_left
   ·(intro W hSW;(try dsimp only at hSW);(go_simp<;>with_reducible rfl))
   (try simp only[Act.put,List.setIfInBounds_toArray,List.set_cons_zero,List.set_cons_succ])
   refine zaa (v:=?_) rfl (fun _ _ _ h=>h) ?_ ?_
   rotate_left
   ·(intro W hSW;(try dsimp only at hSW);(go_simp<;>with_reducible rfl))
   (try simp only[Act.put,List.setIfInBounds_toArray,List.set_cons_zero,List.set_cons_succ])
   refine zaa (v:=?_) rfl (fun _ _ _ h=>h) ?_ ?_
   rotate_left
   ·(intro W hSW;(try dsimp only at hSW);(go_simp<;>with_reducible rfl))
   (try simp only[Act.put,List.setIfInBounds_toArray,List.set_cons_zero,List.set_cons_succ])
   refine zaa (v:=?_) rfl (fun _ _ _ h=>h) ?_ ?_
   rotate_left
   ·(intro W hSW;(try dsimp only at hSW);(go_simp<;>with_reducible rfl))
   (try simp only[Act.put,List.setIfInBounds_toArray,List.set_cons_zero,List.set_cons_succ])
   refine zaa (v:=?_) rfl (fun _ _ _ h=>h) ?_ ?_
   rotate_left
   ·(intro W hSW;(try dsimp only at hSW);(go_simp<;>with_reducible rfl))
   (try simp only[Act.put,List.setIfInBounds_toArray,List.set_cons_zero,List.set_cons_succ])
   refine zaa (v:=?_) rfl (fun _ _ _ h=>h) ?_ ?_
   rotate_left
   ·(intro W hSW;(try dsimp only at hSW);(go_simp<;>with_reducible rfl))
   (try simp only[Act.put,List.setIfInBounds_toArray,List.set_cons_zero,List.set_cons_succ])
   refine zaa (v:=?_) rfl (fun _ _ _ h=>h) ?_ ?_
   rotate_left
   ·(intro W hSW;(try dsimp only at hSW);(go_simp<;>with_reducible rfl))
   (try simp only[Act.put,List.setIfInBounds_toArray,List.set_cons_zero,List.set_cons_succ])
   refine zaa (v:=?_) rfl (fun _ _ _ h=>h) ?_ ?_
   rotate_left
   ·(intro W hSW;(try dsimp only at hSW);(go_simp<;>with_reducible rfl))
   (try simp only[Act.put,List.setIfInBounds_toArray,List.set_cons_zero,List.set_cons_succ])
   refine zaa (v:=?_) rfl (fun _ _ _ h=>h) ?_ ?_
   rotate_left
   ·(intro W hSW;(try dsimp only at hSW);(go_simp<;>with_reducible rfl))
   (try simp only[Act.put,List.setIfInBounds_toArray,List.set_cons_zero,List.set_cons_succ])
   refine zaa (v:=?_) rfl (fun _ _ _ h=>h) ?_ ?_
   rotate_left
   ·(intro W hSW;(try dsimp only at hSW);(go_simp<;>with_reducible rfl))
   (try simp only[Act.put,List.setIfInBounds_toArray,List.set_cons_zero,List.set_cons_succ])
   refine zaa (v:=?_) rfl (fun _ _ _ h=>h) ?_ ?_
   rotate_left
   ·(intro W hSW;(try dsimp only at hSW);(go_simp<;>with_reducible rfl))
   (try simp only[Act.put,List.setIfInBounds_toArray,List.set_cons_zero,List.set_cons_succ])
   refine zaa (v:=?_) rfl (fun _ _ _ h=>h) ?_ ?_
   rotate_left
   ·(intro W hSW;(try dsimp only at hSW);(go_simp<;>with_reducible rfl))
   (try simp only[Act.put,List.setIfInBounds_toArray,List.set_cons_zero,List.set_cons_succ])
   refine zaa (v:=?_) rfl (fun _ _ _ h=>h) ?_ ?_
   rotate_left
   ·(intro W hSW;(try dsimp only at hSW);(go_simp<;>with_reducible rfl))
   (try simp only[Act.put,List.setIfInBounds_toArray,List.set_cons_zero,List.set_cons_succ])
   refine zaa (v:=?_) rfl (fun _ _ _ h=>h) ?_ ?_
   rotate_left
   ·(intro W hSW;(try dsimp only at hSW);(go_simp<;>with_reducible rfl))
   (try simp only[Act.put,List.setIfInBounds_toArray,List.set_cons_zero,List.set_cons_succ])
   refine zaa (v:=?_) rfl (fun _ _ _ h=>h) ?_ ?_
   rotate_left
   ·(intro W hSW;(try dsimp only at hSW);(go_simp<;>with_reducible rfl))
   (try simp only[Act.put,List.setIfInBounds_toArray,List.set_cons_zero,List.set_cons_succ])
   refine zaa (v:=?_) rfl (fun _ _ _ h=>h) ?_ ?_
   rotate_left
   ·(intro W hSW;(try dsimp only at hSW);(go_simp<;>with_reducible rfl))
   (try simp only[Act.put,List.setIfInBounds_toArray,List.set_cons_zero,List.set_cons_succ])
   refine zaa (v:=?_) rfl (fun _ _ _ h=>h) ?_ ?_
   rotate_left
   ·(intro W hSW;(try dsimp only at hSW);(go_simp<;>with_reducible rfl))
   (try simp only[Act.put,List.setIfInBounds_toArray,List.set_cons_zero,List.set_cons_succ])
   have HBD:=Lib.hid (HB4.out.trans ((zak w4).mono HB4.out.size));have hzd:w4.heap.size≤w4.drew.heap.size:=Nat.le_refl _;have HSD:Hid (∀ W,Below w4.drew.heap.size w4.drew W→(W.cell? ⟨w2.heap.size,0,none⟩=some (.slice (some ⟨b1,off,none⟩) 5 c1)∧W.cell? ⟨b1,off,none⟩=some (.string spa)∧W.cell? ⟨b1,off+1,none⟩=some (.string spb)∧W.cell? ⟨b1,off+2,none⟩=some (.string spc)∧W.cell? ⟨b2,of2,none⟩=some (.int .i64 x)∧W.cell? ⟨b2,of2+1,none⟩=some (.int .i64 y)∧W.cell? ⟨b2,of2+2,none⟩=some (.int .i64 z)∧W.cell? ⟨b2,of2+3,none⟩=some (.int .i64 u))):=fun W hW=>HS4.out W ((zak w4).trans (hW.mono hzd))
   have hbzd:b1<w4.drew.heap.size:=Nat.lt_of_lt_of_le (Nat.lt_of_lt_of_le hbz z4) hzd;generalize w4.drew=w5 at *;refine zba rfl (fun K hK=>?_);go_simp;refine hK.out _ _ (HSD.out _ (zaj w5 _)) ?_;clear hK K
   (try simp only[Act.put,List.setIfInBounds_toArray,List.set_cons_zero,List.set_cons_succ])
   refine zbj ?_;simp only[List.drop_succ_cons,List.drop_zero];go_upto_region 7 with (fail);obtain⟨W5,hW5,b5,z5,k5⟩:=zas w5 #[.string spa,.string spb,.string spc,.int .i64 x,.int .i64 y,.int .i64 z,.int .i64 u,.int .i64 k] 45;rw[hW5];clear hW5;have HB5:=Lib.hid (HBD.out.trans (b5.mono HBD.out.size));have zb5:=HBD.out.size;have K5:=Lib.hid k5;clear b5 k5;obtain⟨t0,t1,t2,t3,t4,t5,t6,t7⟩:=HD.out _ HB5.out;have gz:=bkF (bkB K0.out HB5.out (by omega));have q0:=bkC (v:=.string spa) K5.out 0 rfl;have q1:=bkC (v:=.string spb) K5.out 1 rfl;have q2:=bkC (v:=.string spc) K5.out 2 rfl;have q3:=bkC (v:=.int .i64 x) K5.out 3 rfl;have q4:=bkC (v:=.int .i64 y) K5.out 4 rfl;have q5:=bkC (v:=.int .i64 z) K5.out 5 rfl;have q6:=bkC (v:=.int .i64 u) K5.out 6 rfl;have q7:=bkC (v:=.int .i64 k) K5.out 7 rfl;have BF:=Lib.hid (HH.out _ HB5.out);go_wp2_with (go_at_call 17;with_reducible refine (HTX.out _ HB5.out).mono ?_;rintro e w6 ⟨rfl,hb6⟩;clear t0 t1 t2 t3 t4 t5 t6 t7 gz q0 q1 q2 q3 q4 q5 q6 q7 BF;have HB6:=Lib.hid (HB5.out.trans (hb6.mono HB5.out.size));have K6:=Lib.hid (bkB K5.out hb6 (by omega));clear hb6;obtain⟨t0,t1,t2,t3,t4,t5,t6,t7⟩:=HD.out _ HB6.out;have gz:=bkF (bkB K0.out HB6.out (by omega));have q0:=bkC (v:=.string spa) K6.out 0 rfl;have q1:=bkC (v:=.string spb) K6.out 1 rfl;have q2:=bkC (v:=.string spc) K6.out 2 rfl;have q3:=bkC (v:=.int .i64 x) K6.out 3 rfl;have q4:=bkC (v:=.int .i64 y) K6.out 4 rfl;have q5:=bkC (v:=.int .i64 z) K6.out 5 rfl;have q6:=bkC (v:=.int .i64 u) K6.out 6 rfl;have q7:=bkC (v:=.int .i64 k) K6.out 7 rfl;have BF:=Lib.hid (HH.out _ HB6.out));refine bodyPost_ret (v:=.tuple #[.agg #[.string spa,.string spb,.string spc,.int .i64 x,.int .i64 y,.int .i64 z,.int .i64 u,.int .i64 k],.bool true]) (by simp[results,Tryz.results16,go_sem, *]) rfl ?_;exact⟨by rw[HE.out];rfl,(bset (bset (bset (bset (bset (bset (bset (bset BF.out (by omega) 0 _) (by omega) 1 _) (by omega) 2 _) (by omega) 3 _) (by omega) 4 _) (by omega) 5 _) (by omega) 6 _) (by omega) 7 _)⟩
  ·have HE:Hid (reqR s=none):=by show _=_;unfold reqR;rw[hab];simp[hpr,hv]
   have hne:eqS (zbb ⟨ofL pa,ofL pb,ofL pc,x,y,z,u,zal t⟩) s=false:=by
    rw[Bool.eq_false_iff];intro e;exact hv ((reqText_of hab hpr h0).1 (zcm.1 e))
   generalize zbb ⟨ofL pa,ofL pb,ofL pc,x,y,z,u,zal t⟩=tx at *;have hq:(tx.toList == s.toList)=false:=hne;have hqn:(tx.toList != s.toList)=true:=by unfold bne;rw[hq];rfl
   clear hne;clear hpr hab hv h0 hspa hspb hspc hsn hst;generalize zal t=k at *;generalize ofL pa=spa at *;generalize ofL pb=spb at *;generalize ofL pc=spc at *;go_enter Tryz.func16,Tryz.ntmps16;go_upto_region 1 with (fail);rw[HW0.out];obtain⟨t0,t1,t2,t3,t4,t5,t6,t7⟩:=HD.out _ HB.out;go_wp2_with fail;refine (HSP.out _ HB.out).mono ?_;rintro e w2 ⟨a1,c1,rfl,hb2,hr2⟩;obtain⟨_,_,e1,_,_,hcl⟩:=Rd.strs hr2;injection e1 with e1 _ e3;subst e1 e3;obtain⟨b1,off,ea,hbb,hat⟩:=hcl (by simp);subst ea;have x0:=hat 0 (by simp);have x1:=hat 1 (by simp);have x2:=hat 2 (by simp);have x3:=hat 3 (by simp);have x4:=hat 4 (by simp);simp only[List.getElem_cons_zero,List.getElem_cons_succ,Nat.add_zero] at x0 x1 x2 x3 x4;have HBX:=Lib.hid (HB.out.trans (hb2.mono HB.out.size));clear hb2 hr2 hcl hat t0 t1 t2 t3 t4 t5 t6 t7;go_upto_region 2 with (fail);obtain⟨WB,hWB,bB,zB,kB⟩:=zas w2 #[.slice (some ⟨b1,off,none⟩) 5 c1] 67;rw[hWB];clear hWB;have HBY:=Lib.hid (HBX.out.trans (bB.mono HBX.out.size));have wx:=bkC (v:=.slice (some ⟨b1,off,none⟩) 5 c1) kB 0 rfl;replace x0:=(bat bB b1 _ hbb).trans x0;replace x1:=(bat bB b1 _ hbb).trans x1;replace x2:=(bat bB b1 _ hbb).trans x2;replace x3:=(bat bB b1 _ hbb).trans x3;replace x4:=(bat bB b1 _ hbb).trans x4;have hbY:b1<WB.heap.size:=by omega
   have hwY:w2.heap.size<WB.heap.size:=by omega
   clear bB kB;go_wp2_with fail;refine (HRN.out _ HBY.out).mono ?_;rintro e w3 ⟨a2,c2,rfl,hb3,hr3⟩;obtain⟨_,_,e1,_,_,hcl⟩:=Rd.ints hr3;injection e1 with e1 _ e3;subst e1 e3;obtain⟨b2,of2,ea,hbb2,hat⟩:=hcl (by simp);subst ea;have y0:=hat 0 (by simp);have y1:=hat 1 (by simp);have y2:=hat 2 (by simp);have y3:=hat 3 (by simp);simp only[List.getElem_cons_zero,List.getElem_cons_succ,Nat.add_zero] at y0 y1 y2 y3;have z3:=hb3.size;have hc0:=(bat hb3 b1 _ hbY).trans x0;have hc1:=(bat hb3 b1 _ hbY).trans x1;have hc2:=(bat hb3 b1 _ hbY).trans x2;have hc3:=(bat hb3 b1 _ hbY).trans x3;have hc4:=(bat hb3 b1 _ hbY).trans x4;have hwx:=(bat hb3 _ _ hwY).trans wx;have HB3:=Lib.hid (HBY.out.trans (hb3.mono HBY.out.size));have HS3:Hid (∀ W,Below w3.heap.size w3 W→(W.cell? ⟨w2.heap.size,0,none⟩=some (.slice (some ⟨b1,off,none⟩) 5 c1)∧W.cell? ⟨b1,off,none⟩=some (.string spa)∧W.cell? ⟨b1,off+1,none⟩=some (.string spb)∧W.cell? ⟨b1,off+2,none⟩=some (.string spc)∧W.cell? ⟨b2,of2,none⟩=some (.int .i64 x)∧W.cell? ⟨b2,of2+1,none⟩=some (.int .i64 y)∧W.cell? ⟨b2,of2+2,none⟩=some (.int .i64 z)∧W.cell? ⟨b2,of2+3,none⟩=some (.int .i64 u))):=fun W hW=>⟨(bat hW _ _ (by omega)).trans hwx,(bat hW b1 _ (by omega)).trans hc0,(bat hW b1 _ (by omega)).trans hc1,(bat hW b1 _ (by omega)).trans hc2,(bat hW b2 _ (by omega)).trans y0,(bat hW b2 _ (by omega)).trans y1,(bat hW b2 _ (by omega)).trans y2,(bat hW b2 _ (by omega)).trans y3⟩
   have HT3:Hid (∀ W,Below w3.heap.size w3 W→W.cell? ⟨b1,off+4,none⟩=some (.string (ofL t))):=fun W hW=>(bat hW b1 _ (by omega)).trans hc4
   clear hb3 hr3 hcl hat hc0 hc1 hc2 hc3 hc4 y0 y1 y2 y3 x0 x1 x2 x3 x4 hwx wx;have hbz:b1<w3.heap.size:=by omega
   go_wp2_with fail;refine (HLS.out w3 w2.heap.size b1 off c1 (HS3.out _ (Below.refl _ _)).1 (HT3.out _ (Below.refl _ _))).mono ?_;rintro e w4 ⟨rfl,hb4⟩;have HB4:=Lib.hid (HB3.out.trans (hb4.mono HB3.out.size));have z4:=hb4.size;have HS4:Hid (∀ W,Below w4.heap.size w4 W→(W.cell? ⟨w2.heap.size,0,none⟩=some (.slice (some ⟨b1,off,none⟩) 5 c1)∧W.cell? ⟨b1,off,none⟩=some (.string spa)∧W.cell? ⟨b1,off+1,none⟩=some (.string spb)∧W.cell? ⟨b1,off+2,none⟩=some (.string spc)∧W.cell? ⟨b2,of2,none⟩=some (.int .i64 x)∧W.cell? ⟨b2,of2+1,none⟩=some (.int .i64 y)∧W.cell? ⟨b2,of2+2,none⟩=some (.int .i64 z)∧W.cell? ⟨b2,of2+3,none⟩=some (.int .i64 u))):=fun W hW=>HS3.out W (hb4.trans (hW.mono z4))
   clear hb4 HT3;go_upto_region 6 with (fail);refine zax 24 [(0,true),(1,true),(2,true),(3,true),(4,true),(5,true),(6,true),(7,true),(8,true),(9,true),(10,true),(11,true),(12,true),(13,true),(14,true),(15,true),(16,true),(17,true),(18,true),(19,true),(20,true),(21,true),(22,true),(23,false)] (fun W=>W.cell? ⟨w2.heap.size,0,none⟩=some (.slice (some ⟨b1,off,none⟩) 5 c1)∧W.cell? ⟨b1,off,none⟩=some (.string spa)∧W.cell? ⟨b1,off+1,none⟩=some (.string spb)∧W.cell? ⟨b1,off+2,none⟩=some (.string spc)∧W.cell? ⟨b2,of2,none⟩=some (.int .i64 x)∧W.cell? ⟨b2,of2+1,none⟩=some (.int .i64 y)∧W.cell? ⟨b2,of2+2,none⟩=some (.int .i64 z)∧W.cell? ⟨b2,of2+3,none⟩=some (.int .i64 u)) (by kernel_rfl) (by kernel_rfl) (HS4.out _ (zak _)) (fun hHeld=>?_);refine zaa (v:=?_) rfl (fun _ _ _ h=>h) ?_ ?_
   rotate_left
   ·(intro W hSW;(try dsimp only at hSW);(go_simp<;>with_reducible rfl))
   (try simp only[Act.put,List.setIfInBounds_toArray,List.set_cons_zero,List.set_cons_succ])
   refine zaa (v:=?_) rfl (fun _ _ _ h=>h) ?_ ?_
   rotate_left
   ·(intro W hSW;(try dsimp only at hSW);(go_simp<;>with_reducible rfl))
   (try simp only[Act.put,List.setIfInBounds_toArray,List.set_cons_zero,List.set_cons_succ])
   refine zaa (v:=?_) rfl (fun _ _ _ h=>h) ?_ ?_
   rotate_left
   ·(intro W hSW;(try dsimp only at hSW);(go_simp<;>with_reducible rfl))
   (try simp only[Act.put,List.setIfInBounds_toArray,List.set_cons_zero,List.set_cons_succ])
   refine zaa (v:=?_) rfl (fun _ _ _ h=>h) ?_ ?_
   rotate_left
   ·(intro W hSW;(try dsimp only at hSW);(go_simp<;>with_reducible rfl))
   (try simp only[Act.put,List.setIfInBounds_toArray,List.set_cons_zero,List.set_cons_succ])
   refine zaa (v:=?_) rfl (fun _ _ _ h=>h) ?_ ?_
   rotate_left
   ·(intro W hSW;(try dsimp only at hSW);(go_simp<;>with_reducible rfl))
   (try simp only[Act.put,List.setIfInBounds_toArray,List.set_cons_zero,List.set_cons_succ])
   refine zaa (v:=?_) rfl (fun _ _ _ h=>h) ?_ ?_
   rotate_left
   ·(intro W hSW;(try dsimp only at hSW);(go_simp<;>with_reducible rfl))
   (try simp only[Act.put,List.setIfInBounds_toArray,List.set_cons_zero,List.set_cons_succ])
   refine zaa (v:=?_) rfl (fun _ _ _ h=>h) ?_ ?_
   rotate_left
   ·(intro W hSW;(try dsimp only at hSW);(go_simp<;>with_reducible rfl))
   (try simp only[Act.put,List.setIfInBounds_toArray,List.set_cons_zero,List.set_cons_succ])
   refine zaa (v:=?_) rfl (fun _ _ _ h=>h) ?_ ?_
   rotate_left
   ·(intro W hSW;(try dsimp only at hSW);(go_simp<;>with_reducible rfl))
   (try simp only[Act.put,List.setIfInBounds_toArray,List.set_cons_zero,List.set_cons_succ])
   refine zaa (v:=?_) rfl (fun _ _ _ h=>h) ?_ ?_
   rotate_left
   ·(intro W hSW;(try dsimp only at hSW);(go_simp<;>with_reducible rfl))
   (try simp only[Act.put,List.setIfInBounds_toArray,List.set_cons_zero,List.set_cons_succ])
   refine zaa (v:=?_) rfl (fun _ _ _ h=>h) ?_ ?_
   rotate_left
   ·(intro W hSW;(try dsimp only at hSW);(go_simp<;>with_reducible rfl))
   (try simp only[Act.put,List.setIfInBounds_toArray,List.set_cons_zero,List.set_cons_succ])
   refine zaa (v:=?_) rfl (fun _ _ _ h=>h) ?_ ?_
   rotate_left
   ·(intro W hSW;(try dsimp only at hSW);(go_simp<;>with_reducible rfl))
   (try simp only[Act.put,List.setIfInBounds_toArray,List.set_cons_zero,List.set_cons_succ])
   refine zaa (v:=?_) rfl (fun _ _ _ h=>h) ?_ ?_
   rotate_left
   ·(intro W hSW;(try dsimp only at hSW);(go_simp<;>with_reducible rfl))
   (try simp only[Act.put,List.setIfInBounds_toArray,List.set_cons_zero,List.set_cons_succ])
   refine zaa (v:=?_) rfl (fun _ _ _ h=>h) ?_ ?_
   rotate_left
   ·(intro W hSW;(try dsimp only at hSW);(go_simp<;>with_reducible rfl))
   (try simp only[Act.put,List.setIfInBounds_toArray,List.set_cons_zero,List.set_cons_succ])
   refine zaa (v:=?_) rfl (fun _ _ _ h=>h) ?_ ?_
   rotate_left
   ·(intro W hSW;(try dsimp only at hSW);(go_simp<;>with_reducible rfl))
   (try simp only[Act.put,List.setIfInBounds_toArray,List.set_cons_zero,List.set_cons_succ])
   refine zaa (v:=?_) rfl (fun _ _ _ h=>h) ?_ ?_
   rotate_left
   ·(intro W hSW;(try dsimp only at hSW);(go_simp<;>with_reducible rfl))
   (try simp only[Act.put,List.setIfInBounds_toArray,List.set_cons_zero,List.set_cons_succ])
   refine zaa (v:=?_) rfl (fun _ _ _ h=>h) ?_ ?_
   rotate_left
   ·(intro W hSW;(try dsimp only at hSW);(go_simp<;>with_reducible rfl))
   (try simp only[Act.put,List.setIfInBounds_toArray,List.set_cons_zero,List.set_cons_succ])
   refine zaa (v:=?_) rfl (fun _ _ _ h=>h) ?_ ?_
   rotate_left
   ·(intro W hSW;(try dsimp only at hSW);(go_simp<;>with_reducible rfl))
   (try simp only[Act.put,List.setIfInBounds_toArray,List.set_cons_zero,List.set_cons_succ])
   refine zaa (v:=?_) rfl (fun _ _ _ h=>h) ?_ ?_
   rotate_left
   ·(intro W hSW;(try dsimp only at hSW);(go_simp<;>with_reducible rfl))
   (try simp only[Act.put,List.setIfInBounds_toArray,List.set_cons_zero,List.set_cons_succ])
   refine zaa (v:=?_) rfl (fun _ _ _ h=>h) ?_ ?_
   rotate_left
   ·(intro W hSW;(try dsimp only at hSW);(go_simp<;>with_reducible rfl))
   (try simp only[Act.put,List.setIfInBounds_toArray,List.set_cons_zero,List.set_cons_succ])
   refine zaa (v:=?_) rfl (fun _ _ _ h=>h) ?_ ?_
   rotate_left
   ·(intro W hSW;(try dsimp only at hSW);(go_simp<;>with_reducible rfl))
   (try simp only[Act.put,List.setIfInBounds_toArray,List.set_cons_zero,List.set_cons_succ])
   refine zaa (v:=?_) rfl (fun _ _ _ h=>h) ?_ ?_
   rotate_left
   ·(intro W hSW;(try dsimp only at hSW);(go_simp<;>with_reducible rfl))
   (try simp only[Act.put,List.setIfInBounds_toArray,List.set_cons_zero,List.set_cons_succ])
   refine zaa (v:=?_) rfl (fun _ _ _ h=>h) ?_ ?_
   rotate_left
   ·(intro W hSW;(try dsimp only at hSW);(go_simp<;>with_reducible rfl))
   (try simp only[Act.put,List.setIfInBounds_toArray,List.set_cons_zero,List.set_cons_succ])
   refine zaa (v:=?_) rfl (fun _ _ _ h=>h) ?_ ?_
   rotate_left
   ·(intro W hSW;(try dsimp only at hSW);(go_simp<;>with_reducible rfl))
   (try simp only[Act.put,List.setIfInBounds_toArray,List.set_cons_zero,List.set_cons_succ])
   have HBD:=Lib.hid (HB4.out.trans ((zak w4).mono HB4.out.size));have hzd:w4.heap.size≤w4.drew.heap.size:=Nat.le_refl _;have HSD:Hid (∀ W,Below w4.drew.heap.size w4.drew W→(W.cell? ⟨w2.heap.size,0,none⟩=some (.slice (some ⟨b1,off,none⟩) 5 c1)∧W.cell? ⟨b1,off,none⟩=some (.string spa)∧W.cell? ⟨b1,off+1,none⟩=some (.string spb)∧W.cell? ⟨b1,off+2,none⟩=some (.string spc)∧W.cell? ⟨b2,of2,none⟩=some (.int .i64 x)∧W.cell? ⟨b2,of2+1,none⟩=some (.int .i64 y)∧W.cell? ⟨b2,of2+2,none⟩=some (.int .i64 z)∧W.cell? ⟨b2,of2+3,none⟩=some (.int .i64 u))):=fun W hW=>HS4.out W ((zak w4).trans (hW.mono hzd))
   have hbzd:b1<w4.drew.heap.size:=Nat.lt_of_lt_of_le (Nat.lt_of_lt_of_le hbz z4) hzd;generalize w4.drew=w5 at *;refine zba rfl (fun K hK=>?_);go_simp;refine hK.out _ _ (HSD.out _ (zaj w5 _)) ?_;clear hK K
   (try simp only[Act.put,List.setIfInBounds_toArray,List.set_cons_zero,List.set_cons_succ])
   refine zbj ?_;simp only[List.drop_succ_cons,List.drop_zero];go_upto_region 7 with (fail);obtain⟨W5,hW5,b5,z5,k5⟩:=zas w5 #[.string spa,.string spb,.string spc,.int .i64 x,.int .i64 y,.int .i64 z,.int .i64 u,.int .i64 k] 45;rw[hW5];clear hW5;have HB5:=Lib.hid (HBD.out.trans (b5.mono HBD.out.size));have zb5:=HBD.out.size;have K5:=Lib.hid k5;clear b5 k5;obtain⟨t0,t1,t2,t3,t4,t5,t6,t7⟩:=HD.out _ HB5.out;have gz:=bkF (bkB K0.out HB5.out (by omega));have q0:=bkC (v:=.string spa) K5.out 0 rfl;have q1:=bkC (v:=.string spb) K5.out 1 rfl;have q2:=bkC (v:=.string spc) K5.out 2 rfl;have q3:=bkC (v:=.int .i64 x) K5.out 3 rfl;have q4:=bkC (v:=.int .i64 y) K5.out 4 rfl;have q5:=bkC (v:=.int .i64 z) K5.out 5 rfl;have q6:=bkC (v:=.int .i64 u) K5.out 6 rfl;have q7:=bkC (v:=.int .i64 k) K5.out 7 rfl;have BF:=Lib.hid (HH.out _ HB5.out);go_wp2_with (go_at_call 17;with_reducible refine (HTX.out _ HB5.out).mono ?_;rintro e w6 ⟨rfl,hb6⟩;clear t0 t1 t2 t3 t4 t5 t6 t7 gz q0 q1 q2 q3 q4 q5 q6 q7 BF;have HB6:=Lib.hid (HB5.out.trans (hb6.mono HB5.out.size));have K6:=Lib.hid (bkB K5.out hb6 (by omega));clear hb6;obtain⟨t0,t1,t2,t3,t4,t5,t6,t7⟩:=HD.out _ HB6.out;have gz:=bkF (bkB K0.out HB6.out (by omega));have q0:=bkC (v:=.string spa) K6.out 0 rfl;have q1:=bkC (v:=.string spb) K6.out 1 rfl;have q2:=bkC (v:=.string spc) K6.out 2 rfl;have q3:=bkC (v:=.int .i64 x) K6.out 3 rfl;have q4:=bkC (v:=.int .i64 y) K6.out 4 rfl;have q5:=bkC (v:=.int .i64 z) K6.out 5 rfl;have q6:=bkC (v:=.int .i64 u) K6.out 6 rfl;have q7:=bkC (v:=.int .i64 k) K6.out 7 rfl;have BF:=Lib.hid (HH.out _ HB6.out));refine bodyPost_ret (v:=.tuple #[.agg #[.string ⟨#[]⟩,.string ⟨#[]⟩,.string ⟨#[]⟩,.int .i64 0,.int .i64 0,.int .i64 0,.int .i64 0,.int .i64 0],.bool false]) (by simp[results,Tryz.results16,go_sem, *]) rfl ?_;exact⟨by rw[HE.out];rfl,(bset (bset (bset (bset (bset (bset (bset (bset BF.out (by omega) 0 _) (by omega) 1 _) (by omega) 2 _) (by omega) 3 _) (by omega) 4 _) (by omega) 5 _) (by omega) 6 _) (by omega) 7 _)⟩
end Go.Proofs.YtpodllefipleiaaGreatDoor
