/- Contracts: AnswerRequest, WithdrawRequest, MayUse of the program. Conditions: valid requests, bounded texts. -/
import Derived.Test.YtpodllefipleiaaGreatDoorTq5
set_option linter.unusedVariables false
set_option linter.unusedSimpArgs false
namespace Go.Proofs.YtpodllefipleiaaGreatDoor
open Go.RowKit
set_option maxHeartbeats 8000000
set_option maxRecDepth 100000
theorem boxesQ4 (w:World) (c0:Array Value) (t0:Nat) (c1:Array Value) (t1:Nat) (c2:Array Value) (t2:Nat) (c3:Array Value) (t3:Nat):∃ W0,(((w.alloc (.cells c0 t0)).alloc (.cells c1 t1)).alloc (.cells c2 t2)).alloc (.cells c3 t3)=W0∧Below w.heap.size w W0∧w.heap.size+4≤W0.heap.size∧W0.heap[w.heap.size]? = some (.cells c0 t0 (0,0))∧W0.heap[w.heap.size+1]? = some (.cells c1 t1 (0,0))∧W0.heap[w.heap.size+1+1]? = some (.cells c2 t2 (0,0))∧W0.heap[w.heap.size+1+1+1]? = some (.cells c3 t3 (0,0)):=by
 obtain⟨W,e,h1,h2,h3,h4,h5⟩:=boxes3 w c0 t0 c1 t1 c2 t2;have hs:W.heap.size=w.heap.size+3:=by subst e;simp
 rw[e];refine⟨_,rfl,h1.alloc (by omega) _,by simp<;>omega,bkA h3 (by omega) _,bkA h4 (by omega) _,bkA h5 (by omega) _,?_⟩;have h:=bkN W c3 t3
 rwa [hs] at h
theorem RowV.setV {w:World} {b off:Nat} {xs:List Value} (h:RowV w b off xs) (j:Nat) (hj:j<xs.length) (u:Value):RowV (w.setCell ⟨b,off+j,none⟩ u) b off (xs.set j u):=by
 refine⟨fun i v hv=>?_,fun i=>by have:=h.free i;simp[go_sem,this]⟩;have he:=h.at_ j hj
 by_cases c:i=j
 ·subst c
  rw[List.getElem?_set_self hj] at hv;obtain rfl:=Option.some.inj hv;simp[go_sem,he]
 ·rw[List.getElem?_set_ne (Ne.symm c)] at hv
  have h2:=h.cell i v hv;have c':¬ (off+i=off+j):=by omega
  simp[go_sem,h2,c']
theorem vs_setState (l:List DRequest) (k:Nat) (h:k<l.length) (s:Int):(l.flatMap DRequest.vs).set (k*8+7) (.int .i64 s)=(l.set k (zai l[k] s)).flatMap DRequest.vs:=by
 have hA:((l.take k).flatMap DRequest.vs).length=k*8:=by rw[zay DRequest.vs 8 DRequest.vs_len,List.length_take,Nat.min_eq_left (by omega)]
 rw[flatSplit DRequest.vs l k h,flatSet DRequest.vs l k h];generalize (l.take k).flatMap DRequest.vs=A at *;generalize (l.drop (k+1)).flatMap DRequest.vs=C at *;rw[← hA,List.set_append_right _ _ (by omega),show A.length+7-A.length=7 by omega]
 rfl
theorem RowV.state {w:World} {b off:Nat} {l:List DRequest} (h:RowV w b off (l.flatMap DRequest.vs)) (k:Nat) (hk:k<l.length) (s:Int):RowV (w.setCell ⟨b,off+k*8+7,none⟩ (.int .i64 s)) b off ((l.set k (zai l[k] s)).flatMap DRequest.vs):=by
 rw[← vs_setState l k hk,Nat.add_assoc];exact h.setV _ (by rw[zay DRequest.vs 8 DRequest.vs_len];omega) _
theorem RowV.stateCell {w:World} {b off:Nat} {l:List DRequest} (h:RowV w b off (l.flatMap DRequest.vs)) (k:Nat) (hk:k<l.length):∃ u,w.cell? ⟨b,off+k*8+7,none⟩=some u:=by
 have:=h.at_ (k*8+7) (by rw[zay DRequest.vs 8 DRequest.vs_len];omega);rw[← Nat.add_assoc] at this;exact⟨_,this⟩
def ansC (y:DRequest) (day:Int):Int:=if y.state≠1 then 6 else if inB day y.filed y.deadline=true then 0 else 2
def wdC (y:DRequest):Int:=if y.state=3∨y.state=4 then 6 else 0
def SetP (l:List DRequest) (k:Nat) (hk:k<l.length) (s c:Int) (w:World) (e:Ending) (w':World):Prop:=Below w.heap.size w w'∧(c≠0→e=.returned (.tuple #[.slice none 0 0,.int .i64 c]))∧(c=0→∃ (a:Option Addr) (cp:Nat) (fp:List Nat),e=.returned (.tuple #[.slice a l.length cp,.int .i64 0])∧Own w' (DRequest.sT (l.set k (zai l[k] s))) (.slice a l.length cp) fp∧In w.heap.size w'.heap.size fp)
theorem set_end {w W5:World} {l:List DRequest} {k:Nat} {a5:Option Addr} {c5:Nat} {fp:List Nat} {lo:Nat} (hk:k<l.length) (o5:Own W5 (DRequest.sT l) (.slice a5 l.length c5) fp) (i5:In lo W5.heap.size fp) (hlo:w.heap.size≤lo) (hb:Below w.heap.size w W5) :
  ∃ b off,a5=some ⟨b,off,none⟩∧l.length≤c5∧RowV W5 b off (l.flatMap DRequest.vs)∧w.heap.size≤b∧b<W5.heap.size ∧
   (∀ W:World,∀ m:List DRequest,m.length=l.length→RowV W b off (m.flatMap DRequest.vs)→b<W.heap.size→∃ fp',Own W (DRequest.sT m) (.slice (some ⟨b,off,none⟩) l.length c5) fp'∧In w.heap.size W.heap.size fp'):=by
 rw[DRequest.sT_vs] at o5;obtain⟨_,h2,h3,h4⟩:=o5.rowV;have hlen:=zay DRequest.vs 8 DRequest.vs_len l;obtain⟨b,off,rfl,rfl,hv⟩:=h4 (fun e=>by rw[e] at hlen;simp at hlen;omega);have hi:=i5 b (by simp);refine⟨b,off,rfl,h2,hv,by omega,hi.2,fun W m hm hr hbw=>?_⟩;obtain⟨fp',ho,hf⟩:=hr.own (k:=8) (n:=l.length) (c:=c5) (by rw[zay DRequest.vs 8 DRequest.vs_len,hm]) h2 h3;exact⟨fp',by rw[DRequest.sT_vs];exact ho,fun y hy=>by rw[hf y hy];exact⟨by omega,hbw⟩⟩
theorem answer_any (l:List DRequest) (id:ByteArray) (ag:Bool) (day:Int) (k:Nat) (hk:k<l.length) (v:Value) (w:World) (h:Rd w.heap.size w (DRequest.sT l) v) (hok:∀ y ∈ l,y.ok) (hn:l.length≤1000) (hv:za6 l=true) (hix:idxReq l id=(k:Int)) :
  Calls Tryz.prog 19 #[v,.string id,.bool ag,.int .i64 day] w (SetP l k hk (if ag then 2 else 3) (ansC l[k] day) w):=by
 cases ag with
 | true =>
  have HOK:=Lib.hid fun (W:World) (hW:Below w.heap.size w W)=>hv ▸ zav l v w.heap.size W (h.below hW) hW.size hok (by omega)
  have HAT:=Lib.hid (hix ▸ zb6 l id v w.heap.size w h (Nat.le_refl _) (by omega));have HCL:=Lib.hid fun (W:World) (hW:Below w.heap.size w W)=>zb2 l v W ((h.below hW).mono hW.size) (by omega)
  obtain⟨a,c,rfl,hnc,hcm,hcl⟩:=DRequest.rd h;obtain⟨b,off,rfl,hbl,hat⟩:=hcl (by omega);obtain⟨c0,c1,c2,c3,c4,c5,c6,c7⟩:=hat k hk;have HC:=Lib.hid (And.intro c5 (And.intro c6 c7));clear h hcl hat c0 c1 c2 c3 c4 c5 c6 c7 hok hv hix;have ki:(k:Int)<(l.length:Int):=by omega
  have k0:decide ((k:Int)<0)=false:=decide_eq_false (by omega);go_enter Tryz.func19,Tryz.ntmps19;go_wp2_with (fail)
  go_at_call 47
  refine HAT.out.mono ?_;rintro e W1 ⟨rfl,b1⟩;have z1:=b1.size;have B1:=Lib.hid b1;clear b1 HAT;go_wp2_with (fail)
  go_at_call 18
  refine (HOK.out W1 B1.out).mono ?_;rintro e W2 ⟨rfl,b2⟩;have z2:=b2.size;have B2:=Lib.hid (B1.out.trans (b2.mono (by omega)));clear b2 HOK B1;obtain⟨c5,c6,c7⟩:=HC.out;rw[← bat B2.out b _ hbl] at c5 c6 c7
  by_cases hst:l[k].state=1
  case neg =>
   have HE:Hid (ansC l[k] day=6):=by show _=_;unfold ansC;rw[if_pos hst]
   have hsb:(l[k].state != 1)=true:=by rw[bne_iff_ne];exact hst
   clear hst;generalize l[k].state=st at *;go_wp2;go_ret2;unfold SetP;rw[HE.out];exact⟨B2.out,fun _=>rfl,fun h=>by omega⟩
  have hsb:(l[k].state != 1)=false:=by rw[hst];rfl
  have HW:=Lib.hid fun (W:World)=>zap day l[k].filed l[k].deadline W
  have yb:b<W2.heap.size:=by omega
  have oB:=za2 (w0:=W2) yb
  by_cases hin:inB day l[k].filed l[k].deadline=true
  case neg =>
   have hin':inB day l[k].filed l[k].deadline=false:=Bool.eq_false_iff.2 hin;have HE:Hid (ansC l[k] day=2):=by show _=_;unfold ansC;rw[if_neg (by simpa using hst),if_neg hin]
   rw[hin'] at HW;clear hin hin' hst;generalize l[k].state=st at *;generalize l[k].filed=fi at *;generalize l[k].deadline=de at *;go_upto_region 8 with (fail);refine zac W2.heap.size W2 (Below.refl _ _) (by kernel_rfl) (by kernel_rfl) ?_
   repeat (go_big_quiet_step (first|(go_at_call 59;with_reducible exact zab (HW.out _))))
   refine wpQuiet_nil ?_;rintro _ ⟨X,rfl⟩;have HX:=Lib.hid (B2.out.trans ((zad W2.heap.size W2 X).mono (by omega)));clear oB c5 c6 c7;generalize over W2.heap.size W2 X=wz at *;go_wp2;go_ret2;unfold SetP;rw[HE.out];exact⟨HX.out,fun _=>rfl,fun h=>by omega⟩
  have HE:Hid (ansC l[k] day=0):=by show _=_;unfold ansC;rw[if_neg (by simpa using hst),if_pos hin]
  rw[hin] at HW;clear hin hst;have HST:=Lib.hid c7;go_upto_region 8 with (fail);refine zac W2.heap.size W2 (Below.refl _ _) (by kernel_rfl) (by kernel_rfl) ?_
  repeat (go_big_quiet_step (first|(go_at_call 59;with_reducible exact zab (HW.out _))))
  refine wpQuiet_nil ?_;rintro _ ⟨X,rfl⟩;have HX:=Lib.hid (B2.out.trans ((zad W2.heap.size W2 X).mono (by omega)));have zx:=(zad W2.heap.size W2 X).size;clear oB c5 c6 c7 B2 HST;generalize over W2.heap.size W2 X=wz at *;have B2:=HX;clear HX;go_wp2_with (fail)
  go_at_call 52
  refine (HCL.out _ B2.out).mono ?_;rintro e W5 ⟨a5,c5,fp5,rfl,b5,o5,i5⟩;have z5:=b5.size;have B5:=Lib.hid (B2.out.trans (b5.mono (by omega)));obtain⟨b6,o6,rfl,hc5,hr5,g1,g2,hown⟩:=set_end (w:=w) hk o5 i5 (by omega) B5.out;have HOW:=Lib.hid hown;have hci:(l.length:Int)≤(c5:Int):=by omega
  clear b5 o5 i5 hown HCL B2;obtain⟨u5,s5⟩:=hr5.stateCell k hk;have f5:=hr5.free (o6+k*8+7);have HR5:=Lib.hid hr5;clear hr5;go_wp2;go_ret2;have R6:=HR5.out.state k hk 3;have R7:=R6.state k (by simpa using hk) 2;have e7:(l.set k (zai l[k] 3)).set k (zai ((l.set k (zai l[k] 3))[k]'(by simpa using hk)) 2)=l.set k (zai l[k] 2):=by
   rw[List.set_set,List.getElem_set_self]
   rfl
  rw[e7] at R7;obtain⟨fp6,ho6,hi6⟩:=HOW.out _ (l.set k (zai l[k] 2)) (by simp) R7 (by simpa using g2);unfold SetP;rw[HE.out];exact⟨(B5.out.setCell (p:=⟨b6,o6+k*8+7,none⟩) g1 _).setCell (p:=⟨b6,o6+k*8+7,none⟩) g1 _,fun h=>absurd rfl h,fun _=>⟨_,c5,fp6,rfl,ho6,hi6⟩⟩
 | false =>
  have HOK:=Lib.hid fun (W:World) (hW:Below w.heap.size w W)=>hv ▸ zav l v w.heap.size W (h.below hW) hW.size hok (by omega)
  have HAT:=Lib.hid (hix ▸ zb6 l id v w.heap.size w h (Nat.le_refl _) (by omega));have HCL:=Lib.hid fun (W:World) (hW:Below w.heap.size w W)=>zb2 l v W ((h.below hW).mono hW.size) (by omega)
  obtain⟨a,c,rfl,hnc,hcm,hcl⟩:=DRequest.rd h;obtain⟨b,off,rfl,hbl,hat⟩:=hcl (by omega);obtain⟨c0,c1,c2,c3,c4,c5,c6,c7⟩:=hat k hk;have HC:=Lib.hid (And.intro c5 (And.intro c6 c7));clear h hcl hat c0 c1 c2 c3 c4 c5 c6 c7 hok hv hix;have ki:(k:Int)<(l.length:Int):=by omega
  have k0:decide ((k:Int)<0)=false:=decide_eq_false (by omega);go_enter Tryz.func19,Tryz.ntmps19;go_wp2_with (fail)
  go_at_call 47
  refine HAT.out.mono ?_;rintro e W1 ⟨rfl,b1⟩;have z1:=b1.size;have B1:=Lib.hid b1;clear b1 HAT;go_wp2_with (fail)
  go_at_call 18
  refine (HOK.out W1 B1.out).mono ?_;rintro e W2 ⟨rfl,b2⟩;have z2:=b2.size;have B2:=Lib.hid (B1.out.trans (b2.mono (by omega)));clear b2 HOK B1;obtain⟨c5,c6,c7⟩:=HC.out;rw[← bat B2.out b _ hbl] at c5 c6 c7
  by_cases hst:l[k].state=1
  case neg =>
   have HE:Hid (ansC l[k] day=6):=by show _=_;unfold ansC;rw[if_pos hst]
   have hsb:(l[k].state != 1)=true:=by rw[bne_iff_ne];exact hst
   clear hst;generalize l[k].state=st at *;go_wp2;go_ret2;unfold SetP;rw[HE.out];exact⟨B2.out,fun _=>rfl,fun h=>by omega⟩
  have hsb:(l[k].state != 1)=false:=by rw[hst];rfl
  have HW:=Lib.hid fun (W:World)=>zap day l[k].filed l[k].deadline W
  have yb:b<W2.heap.size:=by omega
  have oB:=za2 (w0:=W2) yb
  by_cases hin:inB day l[k].filed l[k].deadline=true
  case neg =>
   have hin':inB day l[k].filed l[k].deadline=false:=Bool.eq_false_iff.2 hin;have HE:Hid (ansC l[k] day=2):=by show _=_;unfold ansC;rw[if_neg (by simpa using hst),if_neg hin]
   rw[hin'] at HW;clear hin hin' hst;generalize l[k].state=st at *;generalize l[k].filed=fi at *;generalize l[k].deadline=de at *;go_upto_region 8 with (fail);refine zac W2.heap.size W2 (Below.refl _ _) (by kernel_rfl) (by kernel_rfl) ?_
   repeat (go_big_quiet_step (first|(go_at_call 59;with_reducible exact zab (HW.out _))))
   refine wpQuiet_nil ?_;rintro _ ⟨X,rfl⟩;have HX:=Lib.hid (B2.out.trans ((zad W2.heap.size W2 X).mono (by omega)));clear oB c5 c6 c7;generalize over W2.heap.size W2 X=wz at *;go_wp2;go_ret2;unfold SetP;rw[HE.out];exact⟨HX.out,fun _=>rfl,fun h=>by omega⟩
  have HE:Hid (ansC l[k] day=0):=by show _=_;unfold ansC;rw[if_neg (by simpa using hst),if_pos hin]
  rw[hin] at HW;clear hin hst;have HST:=Lib.hid c7;go_upto_region 8 with (fail);refine zac W2.heap.size W2 (Below.refl _ _) (by kernel_rfl) (by kernel_rfl) ?_
  repeat (go_big_quiet_step (first|(go_at_call 59;with_reducible exact zab (HW.out _))))
  refine wpQuiet_nil ?_;rintro _ ⟨X,rfl⟩;have HX:=Lib.hid (B2.out.trans ((zad W2.heap.size W2 X).mono (by omega)));have zx:=(zad W2.heap.size W2 X).size;clear oB c5 c6 c7 B2 HST;generalize over W2.heap.size W2 X=wz at *;have B2:=HX;clear HX;go_wp2_with (fail)
  go_at_call 52
  refine (HCL.out _ B2.out).mono ?_;rintro e W5 ⟨a5,c5,fp5,rfl,b5,o5,i5⟩;have z5:=b5.size;have B5:=Lib.hid (B2.out.trans (b5.mono (by omega)));obtain⟨b6,o6,rfl,hc5,hr5,g1,g2,hown⟩:=set_end (w:=w) hk o5 i5 (by omega) B5.out;have HOW:=Lib.hid hown;have hci:(l.length:Int)≤(c5:Int):=by omega
  clear b5 o5 i5 hown HCL B2;obtain⟨u5,s5⟩:=hr5.stateCell k hk;have f5:=hr5.free (o6+k*8+7);have HR5:=Lib.hid hr5;clear hr5;go_wp2;go_ret2;have R6:=HR5.out.state k hk 3;obtain⟨fp6,ho6,hi6⟩:=HOW.out _ (l.set k (zai l[k] 3)) (by simp) R6 (by simpa using g2);unfold SetP;rw[HE.out];exact⟨B5.out.setCell (p:=⟨b6,o6+k*8+7,none⟩) g1 _,fun h=>absurd rfl h,fun _=>⟨_,c5,fp6,rfl,ho6,hi6⟩⟩
theorem withdraw_any (l:List DRequest) (id:ByteArray) (k:Nat) (hk:k<l.length) (v:Value) (w:World) (h:Rd w.heap.size w (DRequest.sT l) v) (hok:∀ y ∈ l,y.ok) (hn:l.length≤1000) (hv:za6 l=true) (hix:idxReq l id=(k:Int)) :
  Calls Tryz.prog 20 #[v,.string id] w (SetP l k hk 4 (wdC l[k]) w):=by
 have HOK:=Lib.hid fun (W:World) (hW:Below w.heap.size w W)=>hv ▸ zav l v w.heap.size W (h.below hW) hW.size hok (by omega)
 have HAT:=Lib.hid (hix ▸ zb6 l id v w.heap.size w h (Nat.le_refl _) (by omega));have HCL:=Lib.hid fun (W:World) (hW:Below w.heap.size w W)=>zb2 l v W ((h.below hW).mono hW.size) (by omega)
 obtain⟨a,c,rfl,hnc,hcm,hcl⟩:=DRequest.rd h;obtain⟨b,off,rfl,hbl,hat⟩:=hcl (by omega);obtain⟨c0,c1,c2,c3,c4,c5,c6,c7⟩:=hat k hk;have HC:=Lib.hid (And.intro c5 (And.intro c6 c7));clear h hcl hat c0 c1 c2 c3 c4 c5 c6 c7 hok hv hix;have ki:(k:Int)<(l.length:Int):=by omega
 have k0:decide ((k:Int)<0)=false:=decide_eq_false (by omega);go_enter Tryz.func20,Tryz.ntmps20;go_wp2_with (fail)
 go_at_call 47
 refine HAT.out.mono ?_;rintro e W1 ⟨rfl,b1⟩;have z1:=b1.size;have B1:=Lib.hid b1;clear b1 HAT;go_wp2_with (fail)
 go_at_call 18
 refine (HOK.out W1 B1.out).mono ?_;rintro e W2 ⟨rfl,b2⟩;have z2:=b2.size;have B2:=Lib.hid (B1.out.trans (b2.mono (by omega)));clear b2 HOK B1;obtain⟨c5,c6,c7⟩:=HC.out;rw[← bat B2.out b _ hbl] at c5 c6 c7
 by_cases h3:l[k].state=3
 ·have HE:Hid (wdC l[k]=6):=by show _=_;unfold wdC;rw[if_pos (Or.inl h3)]
  have hsb:(l[k].state == 3)=true:=by rw[beq_iff_eq];exact h3
  clear h3;generalize l[k].state=st at *;go_wp2;go_ret2;unfold SetP;rw[HE.out];exact⟨B2.out,fun _=>rfl,fun h=>by omega⟩
 have hsb:(l[k].state == 3)=false:=by rw[beq_eq_false_iff_ne];exact h3
 by_cases h4:l[k].state=4
 ·have HE:Hid (wdC l[k]=6):=by show _=_;unfold wdC;rw[if_pos (Or.inr h4)]
  have hsc:(l[k].state == 4)=true:=by rw[beq_iff_eq];exact h4
  clear h3 h4;generalize l[k].state=st at *;go_wp2;go_ret2;unfold SetP;rw[HE.out];exact⟨B2.out,fun _=>rfl,fun h=>by omega⟩
 have hsc:(l[k].state == 4)=false:=by rw[beq_eq_false_iff_ne];exact h4
 have HE:Hid (wdC l[k]=0):=by show _=_;unfold wdC;rw[if_neg (by omega)]
 clear h3 h4;go_wp2_with (fail);clear c5 c6 c7 hsb hsc
 go_at_call 52
 refine (HCL.out _ B2.out).mono ?_;rintro e W5 ⟨a5,c5,fp5,rfl,b5,o5,i5⟩;have z5:=b5.size;have B5:=Lib.hid (B2.out.trans (b5.mono (by omega)));obtain⟨b6,o6,rfl,hc5,hr5,g1,g2,hown⟩:=set_end (w:=w) hk o5 i5 (by omega) B5.out;have HOW:=Lib.hid hown;have hci:(l.length:Int)≤(c5:Int):=by omega
 clear b5 o5 i5 hown HCL B2;obtain⟨u5,s5⟩:=hr5.stateCell k hk;have f5:=hr5.free (o6+k*8+7);have HR5:=Lib.hid hr5;clear hr5;go_wp2;go_ret2;have R6:=HR5.out.state k hk 4;obtain⟨fp6,ho6,hi6⟩:=HOW.out _ (l.set k (zai l[k] 4)) (by simp) R6 (by simpa using g2);unfold SetP;rw[HE.out];exact⟨B5.out.setCell (p:=⟨b6,o6+k*8+7,none⟩) g1 _,fun h=>absurd rfl h,fun _=>⟨_,c5,fp6,rfl,ho6,hi6⟩⟩
theorem mayClosure_any (x:DRequest) (a p:ByteArray) (lo hi:Int) (bA bP bL bH:Nat) (w:World) (kA:w.cell? ⟨bA,0,none⟩=some (.string a)) (kP:w.cell? ⟨bP,0,none⟩=some (.string p)) (kL:w.cell? ⟨bL,0,none⟩=some (.int .i64 lo)) (kH:w.cell? ⟨bH,0,none⟩=some (.int .i64 hi)) (yA:bA<w.heap.size) (yP:bP<w.heap.size) (yL:bL<w.heap.size) (yH:bH<w.heap.size) :
  Calls Tryz.prog 61 #[.agg #[.string x.id,.string x.applicant,.string x.partner,.int .i64 x.low,.int .i64 x.high,.int .i64 x.filed,.int .i64 x.deadline,.int .i64 x.state],.pointer (some ⟨bA,0,none⟩),.pointer (some ⟨bP,0,none⟩),.pointer (some ⟨bL,0,none⟩),.pointer (some ⟨bH,0,none⟩)] w fun e w'=>e=.returned (.bool (mayB a p lo hi x))∧Below w.heap.size w w':=by
 cases h1:(x.state == 2) with
 | true =>
  cases h3:(x.applicant.toList == a.toList) with
  | false =>
   have HE:Hid (mayB a p lo hi x=false):=by show _=_;unfold mayB;simp[eqS,h1,h3]<;>omega
   go_enter Tryz.func61,Tryz.ntmps61;go_upto_region 1 with (fail);obtain⟨W1,hW1,b1,z1,kx⟩:=zas w #[.string x.id,.string x.applicant,.string x.partner,.int .i64 x.low,.int .i64 x.high,.int .i64 x.filed,.int .i64 x.deadline,.int .i64 x.state] 45;rw[hW1];clear hW1;have HB:=Lib.hid b1;have x0:=bkC kx 0 rfl;have x1:=bkC kx 1 rfl;have x2:=bkC kx 2 rfl;have x3:=bkC kx 3 rfl;have x4:=bkC kx 4 rfl;have x5:=bkC kx 5 rfl;have x6:=bkC kx 6 rfl;have x7:=bkC kx 7 rfl;rw[← bat b1 bA _ yA] at kA;rw[← bat b1 bP _ yP] at kP;rw[← bat b1 bL _ yL] at kL;rw[← bat b1 bH _ yH] at kH;clear b1 kx;go_wp2;go_ret;exact⟨by rw[HE.out];rfl,HB.out⟩
  | true =>
   cases h4:(x.partner.toList == p.toList) with
   | false =>
    have HE:Hid (mayB a p lo hi x=false):=by show _=_;unfold mayB;simp[eqS,h1,h3,h4]<;>omega
    go_enter Tryz.func61,Tryz.ntmps61;go_upto_region 1 with (fail);obtain⟨W1,hW1,b1,z1,kx⟩:=zas w #[.string x.id,.string x.applicant,.string x.partner,.int .i64 x.low,.int .i64 x.high,.int .i64 x.filed,.int .i64 x.deadline,.int .i64 x.state] 45;rw[hW1];clear hW1;have HB:=Lib.hid b1;have x0:=bkC kx 0 rfl;have x1:=bkC kx 1 rfl;have x2:=bkC kx 2 rfl;have x3:=bkC kx 3 rfl;have x4:=bkC kx 4 rfl;have x5:=bkC kx 5 rfl;have x6:=bkC kx 6 rfl;have x7:=bkC kx 7 rfl;rw[← bat b1 bA _ yA] at kA;rw[← bat b1 bP _ yP] at kP;rw[← bat b1 bL _ yL] at kL;rw[← bat b1 bH _ yH] at kH;clear b1 kx;go_wp2;go_ret;exact⟨by rw[HE.out];rfl,HB.out⟩
   | true =>
    by_cases h5:x.low≤lo
    ·by_cases h6:x.high ≥ hi
     ·have d5:=decide_eq_true h5
      have d6:=decide_eq_true h6;have HE:Hid (mayB a p lo hi x=true):=by show _=_;unfold mayB;simp[eqS,h1,h3,h4,h5,h6]<;>omega
      go_enter Tryz.func61,Tryz.ntmps61;go_upto_region 1 with (fail);obtain⟨W1,hW1,b1,z1,kx⟩:=zas w #[.string x.id,.string x.applicant,.string x.partner,.int .i64 x.low,.int .i64 x.high,.int .i64 x.filed,.int .i64 x.deadline,.int .i64 x.state] 45;rw[hW1];clear hW1;have HB:=Lib.hid b1;have x0:=bkC kx 0 rfl;have x1:=bkC kx 1 rfl;have x2:=bkC kx 2 rfl;have x3:=bkC kx 3 rfl;have x4:=bkC kx 4 rfl;have x5:=bkC kx 5 rfl;have x6:=bkC kx 6 rfl;have x7:=bkC kx 7 rfl;rw[← bat b1 bA _ yA] at kA;rw[← bat b1 bP _ yP] at kP;rw[← bat b1 bL _ yL] at kL;rw[← bat b1 bH _ yH] at kH;clear b1 kx;go_wp2;go_ret;exact⟨by rw[HE.out];rfl,HB.out⟩
     ·have d5:=decide_eq_true h5
      have d6:=decide_eq_false h6;have h6':x.high<hi:=by omega
      have HE:Hid (mayB a p lo hi x=false):=by show _=_;unfold mayB;simp[eqS,h1,h3,h4,h5,h6']<;>omega
      go_enter Tryz.func61,Tryz.ntmps61;go_upto_region 1 with (fail);obtain⟨W1,hW1,b1,z1,kx⟩:=zas w #[.string x.id,.string x.applicant,.string x.partner,.int .i64 x.low,.int .i64 x.high,.int .i64 x.filed,.int .i64 x.deadline,.int .i64 x.state] 45;rw[hW1];clear hW1;have HB:=Lib.hid b1;have x0:=bkC kx 0 rfl;have x1:=bkC kx 1 rfl;have x2:=bkC kx 2 rfl;have x3:=bkC kx 3 rfl;have x4:=bkC kx 4 rfl;have x5:=bkC kx 5 rfl;have x6:=bkC kx 6 rfl;have x7:=bkC kx 7 rfl;rw[← bat b1 bA _ yA] at kA;rw[← bat b1 bP _ yP] at kP;rw[← bat b1 bL _ yL] at kL;rw[← bat b1 bH _ yH] at kH;clear b1 kx;go_wp2;go_ret;exact⟨by rw[HE.out];rfl,HB.out⟩
    ·have d5:=decide_eq_false h5
     have h5':lo<x.low:=by omega
     have HE:Hid (mayB a p lo hi x=false):=by show _=_;unfold mayB;simp[eqS,h1,h3,h4,h5']<;>omega
     go_enter Tryz.func61,Tryz.ntmps61;go_upto_region 1 with (fail);obtain⟨W1,hW1,b1,z1,kx⟩:=zas w #[.string x.id,.string x.applicant,.string x.partner,.int .i64 x.low,.int .i64 x.high,.int .i64 x.filed,.int .i64 x.deadline,.int .i64 x.state] 45;rw[hW1];clear hW1;have HB:=Lib.hid b1;have x0:=bkC kx 0 rfl;have x1:=bkC kx 1 rfl;have x2:=bkC kx 2 rfl;have x3:=bkC kx 3 rfl;have x4:=bkC kx 4 rfl;have x5:=bkC kx 5 rfl;have x6:=bkC kx 6 rfl;have x7:=bkC kx 7 rfl;rw[← bat b1 bA _ yA] at kA;rw[← bat b1 bP _ yP] at kP;rw[← bat b1 bL _ yL] at kL;rw[← bat b1 bH _ yH] at kH;clear b1 kx;go_wp2;go_ret;exact⟨by rw[HE.out];rfl,HB.out⟩
 | false =>
  cases h2:(x.state == 5) with
  | true =>
   cases h3:(x.applicant.toList == a.toList) with
   | false =>
    have HE:Hid (mayB a p lo hi x=false):=by show _=_;unfold mayB;simp[eqS,h1,h2,h3]<;>omega
    go_enter Tryz.func61,Tryz.ntmps61;go_upto_region 1 with (fail);obtain⟨W1,hW1,b1,z1,kx⟩:=zas w #[.string x.id,.string x.applicant,.string x.partner,.int .i64 x.low,.int .i64 x.high,.int .i64 x.filed,.int .i64 x.deadline,.int .i64 x.state] 45;rw[hW1];clear hW1;have HB:=Lib.hid b1;have x0:=bkC kx 0 rfl;have x1:=bkC kx 1 rfl;have x2:=bkC kx 2 rfl;have x3:=bkC kx 3 rfl;have x4:=bkC kx 4 rfl;have x5:=bkC kx 5 rfl;have x6:=bkC kx 6 rfl;have x7:=bkC kx 7 rfl;rw[← bat b1 bA _ yA] at kA;rw[← bat b1 bP _ yP] at kP;rw[← bat b1 bL _ yL] at kL;rw[← bat b1 bH _ yH] at kH;clear b1 kx;go_wp2;go_ret;exact⟨by rw[HE.out];rfl,HB.out⟩
   | true =>
    cases h4:(x.partner.toList == p.toList) with
    | false =>
     have HE:Hid (mayB a p lo hi x=false):=by show _=_;unfold mayB;simp[eqS,h1,h2,h3,h4]<;>omega
     go_enter Tryz.func61,Tryz.ntmps61;go_upto_region 1 with (fail);obtain⟨W1,hW1,b1,z1,kx⟩:=zas w #[.string x.id,.string x.applicant,.string x.partner,.int .i64 x.low,.int .i64 x.high,.int .i64 x.filed,.int .i64 x.deadline,.int .i64 x.state] 45;rw[hW1];clear hW1;have HB:=Lib.hid b1;have x0:=bkC kx 0 rfl;have x1:=bkC kx 1 rfl;have x2:=bkC kx 2 rfl;have x3:=bkC kx 3 rfl;have x4:=bkC kx 4 rfl;have x5:=bkC kx 5 rfl;have x6:=bkC kx 6 rfl;have x7:=bkC kx 7 rfl;rw[← bat b1 bA _ yA] at kA;rw[← bat b1 bP _ yP] at kP;rw[← bat b1 bL _ yL] at kL;rw[← bat b1 bH _ yH] at kH;clear b1 kx;go_wp2;go_ret;exact⟨by rw[HE.out];rfl,HB.out⟩
    | true =>
     by_cases h5:x.low≤lo
     ·by_cases h6:x.high ≥ hi
      ·have d5:=decide_eq_true h5
       have d6:=decide_eq_true h6;have HE:Hid (mayB a p lo hi x=true):=by show _=_;unfold mayB;simp[eqS,h1,h2,h3,h4,h5,h6]<;>omega
       go_enter Tryz.func61,Tryz.ntmps61;go_upto_region 1 with (fail);obtain⟨W1,hW1,b1,z1,kx⟩:=zas w #[.string x.id,.string x.applicant,.string x.partner,.int .i64 x.low,.int .i64 x.high,.int .i64 x.filed,.int .i64 x.deadline,.int .i64 x.state] 45;rw[hW1];clear hW1;have HB:=Lib.hid b1;have x0:=bkC kx 0 rfl;have x1:=bkC kx 1 rfl;have x2:=bkC kx 2 rfl;have x3:=bkC kx 3 rfl;have x4:=bkC kx 4 rfl;have x5:=bkC kx 5 rfl;have x6:=bkC kx 6 rfl;have x7:=bkC kx 7 rfl;rw[← bat b1 bA _ yA] at kA;rw[← bat b1 bP _ yP] at kP;rw[← bat b1 bL _ yL] at kL;rw[← bat b1 bH _ yH] at kH;clear b1 kx;go_wp2;go_ret;exact⟨by rw[HE.out];rfl,HB.out⟩
      ·have d5:=decide_eq_true h5
       have d6:=decide_eq_false h6;have h6':x.high<hi:=by omega
       have HE:Hid (mayB a p lo hi x=false):=by show _=_;unfold mayB;simp[eqS,h1,h2,h3,h4,h5,h6']<;>omega
       go_enter Tryz.func61,Tryz.ntmps61;go_upto_region 1 with (fail);obtain⟨W1,hW1,b1,z1,kx⟩:=zas w #[.string x.id,.string x.applicant,.string x.partner,.int .i64 x.low,.int .i64 x.high,.int .i64 x.filed,.int .i64 x.deadline,.int .i64 x.state] 45;rw[hW1];clear hW1;have HB:=Lib.hid b1;have x0:=bkC kx 0 rfl;have x1:=bkC kx 1 rfl;have x2:=bkC kx 2 rfl;have x3:=bkC kx 3 rfl;have x4:=bkC kx 4 rfl;have x5:=bkC kx 5 rfl;have x6:=bkC kx 6 rfl;have x7:=bkC kx 7 rfl;rw[← bat b1 bA _ yA] at kA;rw[← bat b1 bP _ yP] at kP;rw[← bat b1 bL _ yL] at kL;rw[← bat b1 bH _ yH] at kH;clear b1 kx;go_wp2;go_ret;exact⟨by rw[HE.out];rfl,HB.out⟩
     ·have d5:=decide_eq_false h5
      have h5':lo<x.low:=by omega
      have HE:Hid (mayB a p lo hi x=false):=by show _=_;unfold mayB;simp[eqS,h1,h2,h3,h4,h5']<;>omega
      go_enter Tryz.func61,Tryz.ntmps61;go_upto_region 1 with (fail);obtain⟨W1,hW1,b1,z1,kx⟩:=zas w #[.string x.id,.string x.applicant,.string x.partner,.int .i64 x.low,.int .i64 x.high,.int .i64 x.filed,.int .i64 x.deadline,.int .i64 x.state] 45;rw[hW1];clear hW1;have HB:=Lib.hid b1;have x0:=bkC kx 0 rfl;have x1:=bkC kx 1 rfl;have x2:=bkC kx 2 rfl;have x3:=bkC kx 3 rfl;have x4:=bkC kx 4 rfl;have x5:=bkC kx 5 rfl;have x6:=bkC kx 6 rfl;have x7:=bkC kx 7 rfl;rw[← bat b1 bA _ yA] at kA;rw[← bat b1 bP _ yP] at kP;rw[← bat b1 bL _ yL] at kL;rw[← bat b1 bH _ yH] at kH;clear b1 kx;go_wp2;go_ret;exact⟨by rw[HE.out];rfl,HB.out⟩
  | false =>
   have HE:Hid (mayB a p lo hi x=false):=by show _=_;unfold mayB;simp[eqS,h1,h2]<;>omega
   go_enter Tryz.func61,Tryz.ntmps61;go_upto_region 1 with (fail);obtain⟨W1,hW1,b1,z1,kx⟩:=zas w #[.string x.id,.string x.applicant,.string x.partner,.int .i64 x.low,.int .i64 x.high,.int .i64 x.filed,.int .i64 x.deadline,.int .i64 x.state] 45;rw[hW1];clear hW1;have HB:=Lib.hid b1;have x0:=bkC kx 0 rfl;have x1:=bkC kx 1 rfl;have x2:=bkC kx 2 rfl;have x3:=bkC kx 3 rfl;have x4:=bkC kx 4 rfl;have x5:=bkC kx 5 rfl;have x6:=bkC kx 6 rfl;have x7:=bkC kx 7 rfl;rw[← bat b1 bA _ yA] at kA;rw[← bat b1 bP _ yP] at kP;rw[← bat b1 bL _ yL] at kL;rw[← bat b1 bH _ yH] at kH;clear b1 kx;go_wp2;go_ret;exact⟨by rw[HE.out];rfl,HB.out⟩
theorem mayUse_any (l:List DRequest) (a p:ByteArray) (lo hi:Int) (v:Value) (w:World) (h:Rd w.heap.size w (DRequest.sT l) v) (hok:∀ y ∈ l,y.ok) (hn:l.length≤1000) :
  Calls Tryz.prog 21 #[v,.string a,.string p,.int .i64 lo,.int .i64 hi] w fun e w'=>e=.returned (.bool (mayR l a p lo hi))∧Below w.heap.size w w':=by
 have H0:=Lib.hid h;have HOK:=Lib.hid fun (W:World) (hW:Below w.heap.size w W)=>zav l v w.heap.size W (h.below hW) hW.size hok (by omega)
 have HE:Hid (mayR l a p lo hi=(za6 l&&(decide (lo<hi)&&l.any (mayB a p lo hi)))):=rfl;clear h hok;generalize hmr:mayR l a p lo hi=MR at *;have HMR:=Lib.hid hmr;clear hmr;go_enter Tryz.func21,Tryz.ntmps21;go_upto_region 1 with (fail);obtain⟨W0,hW0,b0,z0,k0,k1,k2,k3⟩:=boxesQ4 w #[.string a] 9 #[.string p] 9 #[.int .i64 lo] 2 #[.int .i64 hi] 2;rw[hW0];clear hW0;have B0:=Lib.hid b0;have K:=Lib.hid (And.intro k0 (And.intro k1 (And.intro k2 k3)));clear b0 k0 k1 k2 k3;go_wp2_with (fail)
 go_at_call 18
 refine (HOK.out W0 B0.out).mono ?_;rintro e W1 ⟨rfl,b1⟩;have z1:=b1.size;have B1:=Lib.hid (B0.out.trans (b1.mono (by omega)));have K1:Hid _:=Lib.hid (And.intro (bkB K.out.1 b1 (by omega)) (And.intro (bkB K.out.2.1 b1 (by omega)) (And.intro (bkB K.out.2.2.1 b1 (by omega)) (bkB K.out.2.2.2 b1 (by omega)))));clear b1 K B0 HOK
 cases hrb:za6 l with
 | false =>
  have HE2:Hid (MR=false):=by show _=_;rw[HE.out,hrb];rfl
  clear hrb;go_wp2;go_ret;exact⟨by rw[HE2.out];rfl,B1.out⟩
 | true =>
  have t2:=bkC K1.out.2.2.1 0 rfl;have t3:=bkC K1.out.2.2.2 0 rfl
  by_cases hlh:lo<hi
  case neg =>
   have HE2:Hid (MR=false):=by show _=_;rw[HE.out,hrb,decide_eq_false hlh];rfl
   have d1:=decide_eq_false hlh;clear hrb hlh;go_wp2;go_ret;exact⟨by rw[HE2.out];rfl,B1.out⟩
  have HE2:Hid (MR=l.any (mayB a p lo hi)):=by show _=_;rw[HE.out,hrb,decide_eq_true hlh];rfl
  have d1:=decide_eq_true hlh;clear hrb hlh
  have HC:=Lib.hid (zcy l (mayB a p lo hi) 61 [.pointer (some ⟨w.heap.size,0,none⟩),.pointer (some ⟨w.heap.size+1,0,none⟩),.pointer (some ⟨w.heap.size+1+1,0,none⟩),.pointer (some ⟨w.heap.size+1+1+1,0,none⟩)] v w.heap.size W1 (H0.out.below B1.out) (by omega) (by omega) (fun _ _=>by kernel_rfl) (fun x hx W hW=>by
   have yw:=hW.size
   exact mayClosure_any x a p lo hi _ _ _ _ W (bkC (bkB K1.out.1 hW (by omega)) 0 rfl) (bkC (bkB K1.out.2.1 hW (by omega)) 0 rfl) (bkC (bkB K1.out.2.2.1 hW (by omega)) 0 rfl) (bkC (bkB K1.out.2.2.2 hW (by omega)) 0 rfl) (by omega) (by omega) (by omega) (by omega)))
  go_wp2_with (fail)
  go_at_call 60
  refine HC.out.mono ?_;rintro e W2 ⟨rfl,b2⟩;have B2:=Lib.hid (B1.out.trans (b2.mono (by omega)));clear b2 HC K1 t2 t3;rw[← HE2.out];go_wp2;go_ret;exact⟨rfl,B2.out⟩
end Go.Proofs.YtpodllefipleiaaGreatDoor
