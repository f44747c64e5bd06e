/- Contracts: drawn lists and fits of the reference out of code; fits of the program: valid, level, level at a distance. Conditions: bounded sizes; the library's table holds what it holds at the start. -/
import Derived.Test.YtpodllefipleiaaGreatDoorTn4b
import Derived.Test.YtpodllefipleiaaGreatDoorLg2
import Derived.Test.YtpodllefipleiaaGreatDoorRd8
set_option linter.unusedVariables false
set_option linter.unusedSimpArgs false
namespace Go.Proofs.YtpodllefipleiaaGreatDoor
open Go.RowKit
set_option maxHeartbeats 2000000
def SmpN (w:World) (e:Ending) (w':World):Prop:=∃ (l:List DSample) (a:Option Addr) (c:Nat) (fp:List Nat),l.length≤65∧(∀ x ∈ l,x.ok)∧e=.returned (.slice a l.length c)∧Own w' (DSample.sT l) (.slice a l.length c) fp∧In w.heap.size w'.heap.size fp∧Below w.heap.size w w'
theorem DrawFitSamples_any (l:List UInt8) (v:Value) (w:World) (h:Rd w.heap.size w (bsT l) v):Calls Tryz.prog 6 #[v] w (SmpN w):=by
 have HF:=Lib.hid (l00From_any l v w h);clear h;go_enter Tryz.func6,Tryz.ntmps6;go_wp2_with (fail)
 go_at_call 22
 refine HF.out.mono ?_;rintro e w1 ⟨rfl,S1,b1,z1⟩;have HL:=Lib.hid (zbe _ _ w1 S1 (by omega));have HB:=Lib.hid b1;clear S1 b1 HF;go_wp2_with (fail)
 go_at_call 23
 refine HL.out.mono ?_;rintro e w2 ⟨l2,a,c,fp,hl,hk,rfl,ho,hi,k2,_,_,_,C2⟩;have HK:=Lib.hid (And.intro hk (And.intro ho (And.intro hi C2)));clear HL hk ho hi C2;go_wp2;go_ret;obtain⟨hk,ho,hi,C2⟩:=HK.out;exact⟨l2,a,c,fp,hl,hk,rfl,ho,hi.mono (by omega) (Nat.le_refl _),HB.out.trans (C2.below (by omega) (fun x hx=>by simp at hx;omega))⟩
theorem DrawResidualOf_any (l:List UInt8) (v:Value) (w:World) (h:Rd w.heap.size w (bsT l) v) :
  Calls Tryz.prog 8 #[v] w fun e w'=>∃ (a:Option Addr) (n c:Nat) (o s:Int),I64 o∧I64 s∧e=.returned (.tuple #[.slice a n c,.agg #[.int .i64 o,.int .i64 s]])∧Below w.heap.size w w':=by
 have H0:=Lib.hid h;clear h;go_enter Tryz.func8,Tryz.ntmps8;go_upto_region 1 with (fail);obtain⟨W0,hW0,b0,z0,k0⟩:=zbi w #[.int .i64 0,.int .i64 0] 27;rw[hW0];clear hW0;have HK:=Lib.hid k0;have HF:=Lib.hid (l00From_any l v W0 ((H0.out.below b0).mono (by omega)));have HB0:=Lib.hid b0;clear b0 k0 H0;go_wp2_with (fail)
 go_at_call 22
 refine HF.out.mono ?_;rintro e w1 ⟨rfl,S1,b1,z1⟩;have HK1:=Lib.hid (bkB HK.out b1 (by omega));have HB1:=Lib.hid (HB0.out.trans (b1.mono (by omega)));have HL:=Lib.hid (zbe _ _ w1 S1 (by omega));clear S1 b1 HF HK HB0;go_wp2_with (fail)
 go_at_call 23
 refine HL.out.mono ?_;rintro e w2 ⟨l2,a,c,fp,hl,hk,rfl,ho,hi,k2,g1,g2,S2,C2⟩;have z2:=C2.size;have HK2:=Lib.hid ((C2.block _ (by omega) (by simp<;>omega)).trans HK1.out);have HB2:=Lib.hid (HB1.out.trans (C2.below (B:=w.heap.size) (by omega) (fun x hx=>by simp at hx;omega)));have HD:=Lib.hid (l29DrawFit_any _ k2 w2 S2 (by omega));clear HL hk ho hi C2 S2 HK1 HB1;go_wp2_with (fail)
 go_at_call 28
 refine HD.out.mono ?_;rintro e w3 ⟨⟨o,s,o0,o1,s0,s1,rfl⟩,C3⟩;have z3:=C3.size;have hk3:=(C3.block _ (by omega) (by simp<;>omega)).trans HK2.out;have HB3:=Lib.hid (HB2.out.trans (C3.below (B:=w.heap.size) (by omega) (fun x hx=>by simp at hx;omega)));have q0:=bkC hk3 0 rfl;have q1:=bkC hk3 1 rfl;have f0:=bkF hk3 0;have f1:=bkF hk3 1;clear HD C3 HK2 HB2 hk3;go_wp2;exact bodyPost_ret (v:=.tuple #[.slice a l2.length c,.agg #[.int .i64 o,.int .i64 s]]) (by simp[results,Tryz.results8,go_sem, *]) rfl ⟨a,_,c,o,s,⟨by omega,by omega⟩,⟨by omega,by omega⟩,rfl,(HB3.out.setCell (Nat.le_refl _) _).setCell (Nat.le_refl _) _⟩
theorem b10Long_any (l:List UInt8) (v:Value) (w:World) (h:Rd w.heap.size w (bsT l) v):Calls Tryz.prog 5 #[v] w fun e w'=>e=.returned (.bool (decide ((1048576:Int)<(l.length:Int))))∧w=w':=by
 obtain⟨a,c,rfl,_,_,_⟩:=h.bs;clear h;go_enter Tryz.func5,Tryz.ntmps5;go_wp2;go_ret;exact⟨rfl,rfl⟩
theorem limitOk_any (n:Int) (w:World):Calls Tryz.prog 36 #[.int .i64 n] w fun e w'=>e=.returned (.bool (inB n 0 600000))∧w=w':=by
 go_enter Tryz.func36,Tryz.ntmps36;go_wp2_with (go_at_call 59;refine (zbo _ _ _ _).mono ?_;rintro e w1 ⟨rfl,rfl⟩);go_ret;exact⟨rfl,rfl⟩
theorem zbg (o s:Int) (w:World):Calls Tryz.prog 27 #[.agg #[.int .i64 o,.int .i64 s]] w fun e w'=>e=.returned (.bool (fitB o s))∧Below w.heap.size w w':=by
 have HA:Hid (∀ W,Calls Tryz.prog 59 #[.int .i64 s,.int .i64 (-10000),.int .i64 10000] W fun e w'=>e=.returned (.bool (inB s (-10000) 10000))∧W=w'):=fun W=>zbo _ _ _ W
 have HC:Hid (∀ W,Calls Tryz.prog 59 #[.int .i64 o,.int .i64 (-600000),.int .i64 600000] W fun e w'=>e=.returned (.bool (inB o (-600000) 600000))∧W=w'):=fun W=>zbo _ _ _ W
 have HE:Hid (fitB o s=(inB s (-10000) 10000&&inB o (-600000) 600000)):=rfl
 cases h1:inB s (-10000) 10000<;>cases h2:inB o (-600000) 600000
 all_goals
  rw[h1] at HA HE;rw[h2] at HC HE;clear h1 h2;go_enter Tryz.func27,Tryz.ntmps27;go_wp2_with (first|(go_at_call 59;with_reducible refine (HA.out _).mono ?_;rintro e w1 ⟨rfl,rfl⟩)|(go_at_call 59;with_reducible refine (HC.out _).mono ?_;rintro e w1 ⟨rfl,rfl⟩));go_ret;exact⟨by rw[HE.out];rfl,(Below.refl _ _).alloc (Nat.le_refl _) _⟩
theorem fitLevel_any (o s d:Int) (hf:fitB o s=true) (hd0:1≤d) (hd1:d≤283000) (w:World) (L:LibW w) :
  Calls Tryz.prog 29 #[.agg #[.int .i64 o,.int .i64 s],.int .i64 d] w fun e w'=>e=.returned (.int .i64 (levF o s (lgI d)))∧Below w.heap.size w w':=by
 obtain⟨l0,l1⟩:=lgI_bd (n:=d) (by omega);obtain⟨⟨m0,m1⟩,⟨r0,r1⟩,_⟩:=levF_bd (d:=lgI d) hf l0 (by omega);have ho:=(fitB_bd hf).2;have CL:Hid (∀ W:World,LibW W→Calls Tryz.prog 25 #[.int .i64 d] W fun e w'=>e=.returned (.int .i64 (lgI d))∧Below W.heap.size W w'):=fun W hW=>iLogDb_any d (by omega) (by omega) W hW
 have CD:Hid (∀ W:World,Calls Tryz.prog 26 #[.int .i64 (s*lgI d),.int .i64 1000] W fun e w'=>e=.returned (.int .i64 (rdiv (s*lgI d) 1000))∧Below W.heap.size W w'):=fun W=>divRound_any _ _ (by omega) (by omega) (by omega) (by omega) W
 have HE:Hid (levF o s (lgI d)=o-rdiv (s*lgI d) 1000):=rfl;have HL:=Lib.hid L;clear hf L;generalize levF o s (lgI d)=LV at *;generalize lgI d=lg at *;generalize rdiv (s*lg) 1000=rd at *;go_enter Tryz.func29,Tryz.ntmps29;go_upto_region 1 with (fail);obtain⟨W1,hW1,b1,z1,k1⟩:=zbi w #[.int .i64 o,.int .i64 s] 27;rw[hW1];clear hW1;have HB:=Lib.hid b1;have HL1:=Lib.hid (HL.out.mono b1);have s0:=bkC (v:=.int .i64 o) k1 0 rfl;have s1:=bkC (v:=.int .i64 s) k1 1 rfl;have o0:=overC (w0:=W1) (show w.heap.size<W1.heap.size by omega);clear b1 k1;refine zae W1.heap.size W1 (Below.refl _ _) (by kernel_rfl) (by kernel_rfl) ?_
 repeat (go_big_quiet_step (first|(go_at_call 25;with_reducible exact zay (Nat.le_refl _) (CL.out _ (HL1.out.mono (zad _ _ _))))|(go_at_call 26;with_reducible exact zay (Nat.le_refl _) (CD.out _))))
 refine wpQuiet_nil ?_;rintro _ ⟨Y,rfl⟩;have HB2:=Lib.hid (HB.out.trans ((zad W1.heap.size W1 Y).mono HB.out.size));clear o0 s0 s1;generalize over W1.heap.size W1 Y=W2 at *;go_wp2;go_ret;exact⟨by rw[HE.out];rfl,HB2.out⟩
theorem levelOfFit_any (o s d:Int) (hf:fitB o s=true) (hd0:1≤d) (hd1:d≤283000) (w:World) (L:LibW w) :
  Calls Tryz.prog 13 #[.agg #[.int .i64 o,.int .i64 s],.int .i64 d] w fun e w'=>e=.returned (.tuple #[.int .i64 (levF o s (lgI d)),.int .i64 0])∧Below w.heap.size w w':=by
 have CV:Hid (∀ W:World,Calls Tryz.prog 27 #[.agg #[.int .i64 o,.int .i64 s]] W fun e w'=>e=.returned (.bool true)∧Below W.heap.size W w'):=fun W=>hf ▸ zbg o s W
 have CD:Hid (∀ W:World,Calls Tryz.prog 41 #[.int .i64 d] W fun e w'=>e=.returned (.bool true)∧W=w'):=fun W=>by
  have:=distanceOk_any d W
  rwa [show inB d 1 283000=true by unfold inB;rw[decide_eq_true hd0,decide_eq_true hd1];rfl] at this
 have CL:Hid (∀ W:World,LibW W→Calls Tryz.prog 29 #[.agg #[.int .i64 o,.int .i64 s],.int .i64 d] W fun e w'=>e=.returned (.int .i64 (levF o s (lgI d)))∧Below W.heap.size W w'):=fun W hW=>fitLevel_any o s d hf hd0 hd1 W hW
 have HL:=Lib.hid L;clear hf hd0 hd1 L;generalize levF o s (lgI d)=LV at *;go_enter Tryz.func13,Tryz.ntmps13;go_upto_region 1 with (fail);obtain⟨W1,hW1,b1,z1,k1⟩:=zbi w #[.int .i64 o,.int .i64 s] 27;rw[hW1];clear hW1;have HB:=Lib.hid b1;have s0:=bkC (v:=.int .i64 o) k1 0 rfl;have s1:=bkC (v:=.int .i64 s) k1 1 rfl;have K1:=Lib.hid k1;clear b1 k1;go_wp2_with (fail)
 go_at_call 27
 refine (CV.out _).mono ?_;rintro e W2 ⟨rfl,b2⟩;have z2:=b2.size;have k2:=bkB K1.out b2 (by omega);have s2:=bkC (v:=.int .i64 o) k2 0 rfl;have s3:=bkC (v:=.int .i64 s) k2 1 rfl;have HB2:=Lib.hid (HB.out.trans (b2.mono (by omega)));clear s0 s1 b2 k2 K1 HB;go_wp2_with (go_at_call 41;refine (CD.out _).mono ?_;rintro e W3 ⟨rfl,rfl⟩)
 go_at_call 29
 refine (CL.out _ (HL.out.mono HB2.out)).mono ?_;rintro e W4 ⟨rfl,b4⟩;have HB4:=Lib.hid (HB2.out.trans (b4.mono HB2.out.size));clear b4 s2 s3;go_wp2;go_ret2;exact⟨rfl,HB4.out⟩
theorem ints_sum_bd (l:List Int) (h:∀ x ∈ l,-2800001≤x∧x≤2800001) (hn:l.length≤64) (k:Nat):0≤sumM (l.take k) (fun x=>x*x)∧sumM (l.take k) (fun x=>x*x)≤600000000000000:=by
 have h2:∀ x ∈ l.take k,-2800001≤x∧x≤2800001:=fun x hx=>h x (List.mem_of_mem_take hx)
 have a:=zbt (l.take k) (fun x=>x*x) fun x _=>sq_nn x
 have c:=sumM_bd (l.take k) (fun x=>x*x) 7840005600001 fun x hx=>by
  have hb:=h2 x hx;have s:=sq_nn x;refine⟨by omega,?_⟩
  rcases Int.le_total 0 x with hx0|hx0
  ·exact (zbp (A:=2800001) (B:=2800001) hx0 hb.2 (by omega) hb.2 (by omega)).2
  ·have:=(zbp (a:=-x) (b:=-x) (A:=2800001) (B:=2800001) (by omega) (by omega) (by omega) (by omega) (by omega)).2
   rwa [Int.neg_mul_neg] at this
 have hl:(l.take k).length≤64:=by rw[List.length_take];omega
 omega
theorem rootMean_any (l:List Int) (v:Value) (w:World) (h:Rd w.heap.size w (intsT l) v) (hb:∀ x ∈ l,-2800001≤x∧x≤2800001) (h1:1≤l.length) (hn:l.length≤64) :
  Calls Tryz.prog 30 #[v] w fun e w'=>e=.returned (.int .i64 (isq (sumM l (fun x=>x*x) / (l.length:Int))))∧Below w.heap.size w w':=by
 obtain⟨a,c,rfl,hnc,hcm,hcells⟩:=h.ints;obtain⟨b,off,rfl,hbl,hat⟩:=hcells (by omega);have HS:=Lib.hid (ints_sum_bd l hb hn);have HB:=Lib.hid hb;have HA:=Lib.hid hat;clear h hcells hat hb;have ln0:(1:Int)≤(l.length:Int):=by omega
 have ln1:(l.length:Int)≤64:=by omega
 go_enter Tryz.func30,Tryz.ntmps30;go_wp2
 go_loop [3,8] (fun s i=>∃ k:Nat,k≤l.length∧i=.int .i64 k∧s=.int .i64 (sumM (l.take k) (fun x=>x*x))) (fun s i=>l.length-(intOf i).toNat)
 case atStart=>exact⟨0,Nat.zero_le _,rfl,by simp[sumM]⟩
 case round =>
  obtain⟨k,hk,rfl,rfl⟩:=hrel;obtain⟨q0,q1⟩:=HS.out k
  by_cases hlt:k<l.length
  ·have s0:=HA.out k hlt
   have hx:=HB.out l[k] (List.getElem_mem hlt);obtain⟨q2,q3⟩:=HS.out (k+1);have HT:Hid (sumM (l.take (k+1)) (fun x=>x*x)=sumM (l.take k) (fun x=>x*x)+l[k]*l[k]):=by
    show _=_
    rw[List.take_succ_eq_append_getElem hlt,sumM_app];simp[sumM]
   have sq:=sq_nn l[k];rw[HT.out] at q2 q3;generalize sumM (l.take k) (fun x=>x*x)=S at *;generalize l[k]=x at *;go_wp2
   go_round
   case rel=>exact⟨k+1,by omega,by go_num,by rw[HT.out]⟩
   case measure=>simp[intOf];omega
  ·obtain rfl:k=l.length:=by omega
   rw[List.take_length] at q0 q1 ⊢;generalize hS:sumM l (fun x=>x*x)=S at *;have HSS:=Lib.hid hS;clear hS;have d0:=Int.ediv_nonneg q0 (show (0:Int)≤(l.length:Int) by omega);have d1:=Int.ediv_le_self (l.length:Int) q0;have CR:Hid (∀ W:World,Calls Tryz.prog 70 #[.int .i64 (S / (l.length:Int))] W fun e w'=>e=.returned (.int .i64 (isq (S / (l.length:Int))))∧Below W.heap.size W w'):=fun W=>rootOf_any _ (by omega) (by omega) W
   clear HS HB HA d0 d1;go_wp2_with (go_at_call 70;refine (CR.out _).mono ?_;rintro e w1 ⟨rfl,hb1⟩);go_ret;exact⟨by rw[HSS.out];rfl,hb1⟩
end Go.Proofs.YtpodllefipleiaaGreatDoor
