/- Contracts: samples: valid, written and read, for the program and for the reference. Conditions: bounded sizes; the library's own variables hold what they hold at the start. -/
import Derived.Test.YtpodllefipleiaaGreatDoorRd6
import Derived.Test.YtpodllefipleiaaGreatDoorTx3
set_option linter.unusedVariables false
set_option linter.unusedSimpArgs false
namespace Go.Proofs.YtpodllefipleiaaGreatDoor
open Go.RowKit
set_option maxHeartbeats 8000000
set_option maxRecDepth 100000
theorem distanceOk_any (n:Int) (w:World):Calls Tryz.prog 41 #[.int .i64 n] w fun e w'=>e=.returned (.bool (inB n 1 283000))∧w=w':=by
 go_enter Tryz.func41,Tryz.ntmps41;go_wp2_with (go_at_call 59;refine (zbo _ _ _ _).mono ?_;rintro e w1 ⟨rfl,rfl⟩);go_ret;exact⟨rfl,rfl⟩
theorem smpClosure_any (x:DSample) (w:World):Calls Tryz.prog 67 #[.agg #[.int .i64 x.distance,.int .i64 x.level]] w fun e w'=>e=.returned (.bool (!(smpB x)))∧Below w.heap.size w w':=by
 have HD:Hid (∀ W,Calls Tryz.prog 41 #[.int .i64 x.distance] W fun e w'=>e=.returned (.bool (inB x.distance 1 283000))∧W=w'):=fun W=>distanceOk_any x.distance W
 have HL:Hid (∀ W,Calls Tryz.prog 68 #[.int .i64 x.level] W fun e w'=>e=.returned (.bool (inB x.level (-300000) 300000))∧W=w'):=fun W=>validLevel_any x.level W
 have HE:Hid (smpB x=(inB x.distance 1 283000&&inB x.level (-300000) 300000)):=rfl
 cases h1:inB x.distance 1 283000<;>cases h2:inB x.level (-300000) 300000
 all_goals
  rw[h1] at HD HE;rw[h2] at HL HE;clear h1 h2;go_enter Tryz.func67,Tryz.ntmps67;go_wp2_with (first|(go_at_call 41;with_reducible refine (HD.out _).mono ?_;rintro e w1 ⟨rfl,rfl⟩)|(go_at_call 68;with_reducible refine (HL.out _).mono ?_;rintro e w1 ⟨rfl,rfl⟩));go_ret;exact⟨by rw[HE.out];rfl,(Below.refl _ _).alloc (Nat.le_refl _) _⟩
theorem zba (l:List DSample) (p:DSample→Bool) (fn:FuncId) (cap:List Value) (v:Value) (B:Nat) (w:World) (h:Rd B w (DSample.sT l) v) (hB:B≤w.heap.size) (hn:l.length≤1099511627776)
  (hcf:∀ (args:Array Value) (W:World),(callFunc fn args).run Tryz.prog W=.ok (.enter fn args) W)
  (hf:∀ x ∈ l,∀ W:World,Below w.heap.size w W→Calls Tryz.prog fn (Value.agg #[.int .i64 x.distance,.int .i64 x.level]::cap).toArray W fun e W'=>e=.returned (.bool (p x))∧Below W.heap.size W W') :
  Calls Tryz.prog 79 #[v,.func (.func fn) #[] cap.toArray] w fun e w'=>e=.returned (.int .i64 (za8 p l))∧Below w.heap.size w w':=by
 obtain⟨a,c,rfl,hnc,hcm,hcells⟩:=DSample.rd h;clear h;have hnb:(l.length:Int)≤1099511627776:=by omega
 have HF:=Lib.hid hf;clear hf;go_enter Tryz.func79,Tryz.ntmps79;go_wp2;go_loopw [8] (fun i wr=>∃ (k:Nat),k≤l.length∧i=.int .i64 k∧(l.take k).any p=false∧Below w.heap.size w wr) (fun i wr=>l.length-(intOf i).toNat)
 case atStart=>exact⟨0,Nat.zero_le _,rfl,by simp,Below.refl _ _⟩
 case round =>
  obtain⟨k,hk,rfl,hno,hb⟩:=hrel;have HN:=Lib.hid hno;clear hno
  by_cases hlt:k<l.length
  ·obtain⟨b,off,rfl,hbl,hat⟩:=hcells (by omega)
   obtain⟨s0,s1⟩:=hat k hlt;rw[← hb.cell (p:=⟨b,_,none⟩) (show b<w.heap.size by omega)] at s0 s1;have HB:=Lib.hid hb;clear hcells hat hb;go_wp2_with fail;refine (HF.out l[k] (List.getElem_mem hlt)  _ HB.out).mono ?_;rintro e w1 ⟨rfl,hb1⟩;have HB1:=Lib.hid (HB.out.trans (hb1.mono HB.out.size));clear hb1
   by_cases hp:p l[k]=true
   ·go_wp2
    go_ret;exact⟨by rw[firstIdx_at p l k hlt hp HN.out];rfl,HB1.out⟩
   ·have hp':p l[k]=false:=by simpa using hp
    clear hp;go_wp2;go_roundw
    case rel=>exact⟨k+1,by omega,by go_num,by rw[any_take_succ p l k hlt,HN.out,hp'];rfl,HB1.out⟩
    case measure=>simp[intOf];omega
  ·obtain rfl:k=l.length:=by omega
   clear hcells;go_wp2;go_ret;have:=HN.out;rw[List.take_length] at this;exact⟨by rw[firstIdx_none p l this];rfl,hb⟩
theorem containsFuncSample_any (l:List DSample) (p:DSample→Bool) (fn:FuncId) (cap:List Value) (v:Value) (B:Nat) (w:World) (h:Rd B w (DSample.sT l) v) (hB:B≤w.heap.size) (hn:l.length≤1099511627776)
  (hcf:∀ (args:Array Value) (W:World),(callFunc fn args).run Tryz.prog W=.ok (.enter fn args) W)
  (hf:∀ x ∈ l,∀ W:World,Below w.heap.size w W→Calls Tryz.prog fn (Value.agg #[.int .i64 x.distance,.int .i64 x.level]::cap).toArray W fun e W'=>e=.returned (.bool (p x))∧Below W.heap.size W W') :
  Calls Tryz.prog 66 #[v,.func (.func fn) #[] cap.toArray] w fun e w'=>e=.returned (.bool (l.any p))∧Below w.heap.size w w':=by
 have HC:=Lib.hid (zba l p fn cap v B w h hB hn hcf hf);have HE:=Lib.hid (firstIdx_nonneg' p l);clear hf h hcf;generalize l.any p=r at *;go_enter Tryz.func66,Tryz.ntmps66;go_wp2_with fail;refine (HC.out).mono ?_;rintro e w1 ⟨rfl,hb1⟩;have he:=HE.out;generalize za8 p l=m at *;go_wp2;go_ret;exact⟨rfl,hb1⟩
theorem any_not_all (l:List DSample):(l.any fun x=>!(smpB x)) = !(l.all smpB):=by
 rw[List.not_all_eq_any_not]
theorem zau (l:List DSample) (v:Value) (B:Nat) (w:World) (h:Rd B w (DSample.sT l) v) (hB:B≤w.heap.size) (hn:l.length≤1099511627776) :
  Calls Tryz.prog 24 #[v] w fun e w'=>e=.returned (.bool (za9 l))∧Below w.heap.size w w':=by
 have HC:=Lib.hid (containsFuncSample_any l (fun x=>!(smpB x)) 67 [] v B w h hB hn (fun _ _=>by kernel_rfl) (fun x _ W _=>smpClosure_any x W));rw[any_not_all] at HC;obtain⟨a,c,rfl,hnc,hcm,hcl⟩:=DSample.rd h;clear h hcl
 by_cases h64:l.length≤64
 ·have hi:(l.length:Int)≤64:=by omega
  have HE:Hid (za9 l=l.all smpB):=by show _=_;unfold za9;rw[decide_eq_true h64];rfl
  clear h64;generalize l.all smpB=r at *;go_enter Tryz.func24,Tryz.ntmps24;go_wp2_with (go_at_call 66;refine (HC.out).mono ?_;rintro e w1 ⟨rfl,hb1⟩);go_ret;exact⟨by rw[HE.out];simp,hb1⟩
 ·have hi:(64:Int)<(l.length:Int):=by omega
  have HE:Hid (za9 l=false):=by show _=_;unfold za9;rw[decide_eq_false h64];rfl
  clear h64;go_enter Tryz.func24,Tryz.ntmps24;go_wp2;go_ret;exact⟨by rw[HE.out];rfl,Below.refl _ _⟩
theorem smpText_len (x:DSample) (h:x.ok):(ofL (zac x)).size≤43:=by
 show (zac x).length≤43
 unfold zac;rw[List.length_append,List.length_cons];have:=Go.Lib.itoa_length_le x.distance h.distance.1 h.distance.2;have:=Go.Lib.itoa_length_le x.level h.level.1 h.level.2;omega
theorem samplesText_any (l:List DSample) (v:Value) (B:Nat) (w:World) (L:LibW w) (h:Rd B w (DSample.sT l) v) (hB:B≤w.heap.size) (hn:l.length≤1048576) (hk:∀ x ∈ l,x.ok) :
  Calls Tryz.prog 11 #[v] w fun e w'=>e=.returned (.string (ofL (zab l)))∧Below w.heap.size w w':=by
 have HV:Hid (∀ W,W=w→Calls Tryz.prog 24 #[v] W fun e w'=>e=.returned (.bool (za9 l))∧Below W.heap.size W w'):=fun W hW=>by
  subst hW;exact zau l v B W h hB (by omega)
 obtain⟨a,c,rfl,hnc,hcm,hcl⟩:=DSample.rd h;unfold maxLen at hcm;clear h
 by_cases hv:za9 l=true
 case neg =>
  have hv':za9 l=false:=Bool.eq_false_iff.2 hv;rw[hv'] at HV;have HE:Hid (zab l = []):=by show _=_;unfold zab;rw[if_neg hv]
  clear hv hv' hcl hk;go_enter Tryz.func11,Tryz.ntmps11;go_wp2_with (go_at_call 24;refine (HV.out _ rfl).mono ?_;rintro e w1 ⟨rfl,hb1⟩);go_ret;exact⟨by rw[HE.out];rfl,hb1⟩
 rw[hv] at HV;have h64:l.length≤64:=by
  unfold za9 at hv;simp only[Bool.and_eq_true,decide_eq_true_eq] at hv;exact hv.1
 by_cases h2:l = []
 ·subst h2
  clear hcl hk hv;go_enter Tryz.func11,Tryz.ntmps11;go_wp2_with (go_at_call 24;refine (HV.out _ rfl).mono ?_;rintro e w1 ⟨rfl,hb1⟩);go_ret;exact⟨rfl,hb1⟩
 have HE:Hid (zab l=Go.Lib.join (l.map zac) [32]):=by show _=_;unfold zab;rw[if_pos hv,if_neg h2]
 have h2p:0<l.length:=List.length_pos_iff.2 h2;have h2q:((l.length:Int) == 0)=false:=by rw[beq_eq_false_iff_ne];omega
 obtain⟨b,off,rfl,hbB,hat⟩:=hcl h2p;obtain⟨i0,hi0,hz0,hz1,hz2⟩:=info_parts infoStr;have hbw:b<w.heap.size:=by omega
 have HL:=Lib.hid L;have HC:=Lib.hid hat;have HKI:=Lib.hid hk;clear hat hcl L h2 hk hv;go_enter Tryz.func11,Tryz.ntmps11;go_wp2_with (go_at_call 24;refine (HV.out _ rfl).mono ?_;rintro e w1 ⟨rfl,hb1⟩);have HB1:=Lib.hid hb1;have z1:=hb1.size;clear hb1 HV;go_loopw [3,16] (fun v i wr=>∃ (k:Nat),k≤l.length∧i=.int .i64 k∧Below w1.heap.size w1 wr∧Grow wr w1.heap.size 9 1 v k ((l.take k).map (fun x=>strT (ofL (zac x)))) []) (fun _ i wr=>l.length-(intOf i).toNat)
 case atStart=>exact⟨0,Nat.zero_le _,rfl,Below.refl _ _,by simpa using Grow.nil⟩
 case round =>
  obtain⟨k,hk,rfl,hb,hgr⟩:=hrel;have HB:=Lib.hid (HB1.out.trans (hb.mono z1));have HB':=Lib.hid hb;have HG:=Lib.hid hgr;have zr:=hb.size;clear hb hgr
  by_cases hlt:k<l.length
  ·obtain⟨s0,s1⟩:=HC.out k hlt
   rw[← bat HB.out b _ hbw] at s0 s1;have HNI:=Lib.hid (HKI.out l[k] (List.getElem_mem hlt));have HTK:=Lib.hid (List.take_succ_eq_append_getElem hlt);have yb:b<wr.heap.size:=by omega
   generalize l[k]=x at *;have lx:(ofL (Go.Lib.itoa x.distance)).size≤21:=Go.Lib.itoa_length_le x.distance HNI.out.distance.1 HNI.out.distance.2;have ly:(ofL (Go.Lib.itoa x.level)).size≤21:=Go.Lib.itoa_length_le x.level HNI.out.level.1 HNI.out.level.2;have HT:Hid (ofL (Go.Lib.itoa x.distance)++⟨#[58]⟩++ofL (Go.Lib.itoa x.level)=ofL (zac x)):=by
    show _=_
    unfold zac;rw[show (⟨#[58]⟩:ByteArray)=ofL [58] from rfl,ofL_app,ofL_app];simp
   have HX:Hid (∀ W,LibW W→Calls Tryz.prog 34 #[.int .i64 x.distance] W fun e w'=>e=.returned (.string (ofL (Go.Lib.itoa x.distance)))∧Below W.heap.size W w'):=fun W hW=>zb0 x.distance HNI.out.distance W hW
   have HY:Hid (∀ W,LibW W→Calls Tryz.prog 34 #[.int .i64 x.level] W fun e w'=>e=.returned (.string (ofL (Go.Lib.itoa x.level)))∧Below W.heap.size W w'):=fun W hW=>zb0 x.level HNI.out.level W hW
   generalize ofL (Go.Lib.itoa x.distance)=sx at *;generalize ofL (Go.Lib.itoa x.level)=sy at *;have c1:(⟨#[58]⟩:ByteArray).size=1:=rfl;have a1:=fun W:World=>run_string_add_sum (P:=Tryz.prog) (w:=W) sx ⟨#[58]⟩ (by rw[c1];omega)
   have a2:=fun W:World=>run_string_add_sum (P:=Tryz.prog) (w:=W) (sx++⟨#[58]⟩) sy (by rw[ByteArray.size_append,c1];omega)
   clear c1 lx ly;go_upto_region 9 with (fail);obtain⟨W2,hW2,b2,z2,k2⟩:=zbi wr #[.int .i64 x.distance,.int .i64 x.level] 41;rw[hW2];clear hW2;have q0:=bkC (v:=.int .i64 x.distance) k2 0 rfl;have q1:=bkC (v:=.int .i64 x.level) k2 1 rfl;have HS2:Hid (∀ W,Below W2.heap.size W2 W→(W.cell? ⟨wr.heap.size,0,none⟩=some (.int .i64 x.distance)∧W.cell? ⟨wr.heap.size,1,none⟩=some (.int .i64 x.level))):=fun W hW=>⟨bkC (bkB k2 hW (by omega)) 0 rfl,bkC (bkB k2 hW (by omega)) 1 rfl⟩
   have HB2:=Lib.hid (HB.out.trans (b2.mono HB.out.size));have HB2':=Lib.hid (HB'.out.trans (b2.mono zr));have HG2:=Lib.hid (HG.out.below (lo:=0) In.nil b2);clear b2 k2 s0 s1 q0 q1;refine wp_region_ord 10 [(0,true),(1,true),(2,true),(5,true),(6,true),(3,false),(4,true),(7,false),(8,true),(9,false)] (fun W=>W.cell? ⟨wr.heap.size,0,none⟩=some (.int .i64 x.distance)∧W.cell? ⟨wr.heap.size,1,none⟩=some (.int .i64 x.level)) (by kernel_rfl) (by kernel_rfl) (HS2.out _ (za4 _)) (fun hHeld=>?_);refine zaf (v:=?_) rfl (fun _ _ _ h=>h) ?_ ?_
   rotate_left
   ·(intro W hSW;(try dsimp only at hSW);(go_simp<;>with_reducible rfl))
   (try simp only[Act.put,List.setIfInBounds_toArray,List.set_cons_zero,List.set_cons_succ])
   refine zaf (v:=?_) rfl (fun _ _ _ h=>h) ?_ ?_
   rotate_left
   ·(intro W hSW;(try dsimp only at hSW);(go_simp<;>with_reducible rfl))
   (try simp only[Act.put,List.setIfInBounds_toArray,List.set_cons_zero,List.set_cons_succ])
   refine zaf (v:=?_) rfl (fun _ _ _ h=>h) ?_ ?_
   rotate_left
   ·(intro W hSW;(try dsimp only at hSW);(go_simp<;>with_reducible rfl))
   (try simp only[Act.put,List.setIfInBounds_toArray,List.set_cons_zero,List.set_cons_succ])
   refine zaf (v:=?_) rfl (fun _ _ _ h=>h) ?_ ?_
   rotate_left
   ·(intro W hSW;(try dsimp only at hSW);(go_simp<;>with_reducible rfl))
   (try simp only[Act.put,List.setIfInBounds_toArray,List.set_cons_zero,List.set_cons_succ])
   refine zaf (v:=?_) rfl (fun _ _ _ h=>h) ?_ ?_
   rotate_left
   ·(intro W hSW;(try dsimp only at hSW);(go_simp<;>with_reducible rfl))
   (try simp only[Act.put,List.setIfInBounds_toArray,List.set_cons_zero,List.set_cons_succ])
   have HBD:=Lib.hid ((za4 W2).mono (Nat.le_refl _));have hzd:W2.heap.size≤W2.drew.heap.size:=Nat.le_refl _;have HSD:Hid (∀ W,Below W2.drew.heap.size W2.drew W→(W.cell? ⟨wr.heap.size,0,none⟩=some (.int .i64 x.distance)∧W.cell? ⟨wr.heap.size,1,none⟩=some (.int .i64 x.level))):=fun W hW=>HS2.out W ((za4 W2).trans (hW.mono hzd))
   generalize W2.drew=w3 at *;have HL3:Hid (∀ W,Below w3.heap.size w3 W→LibW W):=fun W hW=>HL.out.mono (HB2.out.trans ((HBD.out.trans (hW.mono hzd)).mono HB2.out.size))
   refine zbm rfl (fun K hK=>?_);go_simp;refine (HX.out w3 (HL3.out _ (Below.refl _ _))).mono ?_;rintro e w4 ⟨rfl,hb4⟩;refine hK.out _ _ (HSD.out _ hb4) ?_;clear hK K
   (try simp only[Act.put,List.setIfInBounds_toArray,List.set_cons_zero,List.set_cons_succ])
   have HB4:=Lib.hid hb4;clear hb4;refine zaf (v:=?_) rfl (fun _ _ _ h=>h) ?_ ?_
   rotate_left
   ·(intro W hSW;(try dsimp only at hSW);(go_simp<;>with_reducible rfl))
   (try simp only[Act.put,List.setIfInBounds_toArray,List.set_cons_zero,List.set_cons_succ])
   refine zbm rfl (fun K hK=>?_);go_simp;refine (HY.out w4 (HL3.out _ HB4.out)).mono ?_;rintro e w5 ⟨rfl,hb5⟩;refine hK.out _ _ (HSD.out _ (HB4.out.trans (hb5.mono HB4.out.size))) ?_;clear hK K
   (try simp only[Act.put,List.setIfInBounds_toArray,List.set_cons_zero,List.set_cons_succ])
   have HB5:=Lib.hid (HB4.out.trans (hb5.mono HB4.out.size));clear hb5;refine zaf (v:=?_) rfl (fun _ _ _ h=>h) ?_ ?_
   rotate_left
   ·(intro W hSW;(try dsimp only at hSW);(go_simp<;>with_reducible rfl))
   (try simp only[Act.put,List.setIfInBounds_toArray,List.set_cons_zero,List.set_cons_succ])
   refine zbm rfl (fun K hK=>?_);go_simp;refine hK.out _ _ (HSD.out _ (HB5.out.trans ((zao w5 _).mono HB5.out.size))) ?_;clear hK K
   (try simp only[Act.put,List.setIfInBounds_toArray,List.set_cons_zero,List.set_cons_succ])
   refine wpOrd_nil ?_;simp only[List.drop_succ_cons,List.drop_zero];have hX:=HBD.out.trans (HB5.out.mono hzd);clear HX HY HL3 a1 a2;have z3:=hX.size;have HB3:=Lib.hid (HB2'.out.trans (hX.mono (by omega)));have HG3:=Lib.hid (HG2.out.below (lo:=0) In.nil hX);clear hX HG2 HB2 HB2';rw[HT.out];generalize htx:ofL (zac x)=tx at *;have HTE:=Lib.hid htx;clear htx;go_wp2_with (at_builtin;refine za6 rfl (.tmp 20) (.tmp 29) _ rfl (w1.heap.size) 9 i0 _ 1 16 Tryz.underlying67 hi0 hz0 hz1 hz2 rfl (by omega) _ _ _ [] rfl HG3.out [.string tx] [strT tx] [] rfl 1 rfl (fun u hu=>by simp at hu;subst hu;rfl) (RepV.lits [.string tx]) List.nodup_nil (fun b h=>by simp at h) 0 In.nil In.nil (by simp) (by simp) (by unfold maxLen;omega) (by omega) (by omega) ?_;intro v2 w4 hgn);have HGN:=Lib.hid hgn;clear hgn;go_wp2;go_roundw
   case rel =>
    refine⟨k+1,by omega,by go_num,HB3.out.trans (HGN.out.below.mono (by omega)),?_⟩;rw[HTK.out,List.map_append,List.map_cons,List.map_nil,HTE.out];exact HGN.out.grow
   case measure=>simp[intOf];omega
  ·obtain rfl:k=l.length:=by omega
   rw[List.take_length] at HG;obtain⟨av,cv,fv,ev,ov,iv⟩:=HG.out.toOwn (lo:=w1.heap.size) (by omega) In.nil (by omega);subst ev;have hr:=ov.rd iv;have e:(Tr.sl 1 (l.map fun x=>strT (ofL (zac x))))=strsT (l.map fun x=>ofL (zac x)):=by unfold strsT;rw[List.map_map];rfl
   rw[e] at hr;obtain⟨a2,c2,e2,h3,h4,hcl2⟩:=Rd.strs hr;injection e2 with e3 e4 e5;subst e3 e5;obtain⟨b2,off2,ea2,hb2,hat2⟩:=hcl2 (by simpa using h2p);subst ea2;have HJ:Hid (∀ W,W=wr→Calls Tryz.prog 35 #[.slice (some ⟨b2,off2,none⟩) l.length cv,.string ⟨#[32]⟩] W fun e w'=>e=.returned (.string (ofL (zab l)))∧Below W.heap.size W w'):=fun W hW=>by
    subst hW;have hm:(l.map fun x=>ofL (zac x)).map (·.data.toList)=l.map zac:=by
     rw[List.map_map];exact List.map_congr_left fun n _=>bl_ofL _
    have hlen:(l.map fun x=>ofL (zac x)).length=l.length:=List.length_map _
    have hj:=Tryz.strings_Join b2 off2 cv (l.map fun x=>ofL (zac x)) ⟨#[32]⟩ W (fun j x hx=>by
      obtain⟨hj,e⟩:=List.getElem?_eq_some_iff.1 hx
      rw[hat2 j hj,e]) hb2 (by rw[hlen];omega) (by rw[hlen] at h3 ⊢;omega) (by
      rw[hm]
      have:=join_len (l.map zac) 32 43 (fun x hx=>by
       obtain⟨n,hn,rfl⟩:=List.mem_map.1 hx
       exact smpText_len n (HKI.out n hn))
      rw[List.length_map] at this
      exact Nat.le_trans this (by omega))
    rw[hlen,hm] at hj;rw[HE.out];exact hj
   clear hat2 hcl2 hr h3 h4 e e4;go_wp2_with (go_at_call 35;with_reducible refine (HJ.out _ rfl).mono ?_;rintro e w4 ⟨rfl,hb4⟩);go_ret;exact⟨rfl,HB.out.trans (hb4.mono HB.out.size)⟩
def ReadPS (o:Option (List DSample)) (w:World) (e:Ending) (w':World):Prop:=match o with
 | none=>e=.returned (.tuple #[.slice none 0 0,.bool false])∧Below w.heap.size w w'
 | some vs=>∃ a c fp,e=.returned (.tuple #[.slice a vs.length c,.bool true])∧Below w.heap.size w w'∧Own w' (DSample.sT vs) (.slice a vs.length c) fp∧In w.heap.size w'.heap.size fp
theorem own_nilS (w:World) (a:Option Addr) (c:Nat) (hc:c=0):Own w (DSample.sT []) (.slice a 0 c) []:=by
 subst hc;exact⟨zaw.2 ⟨a,0,0,rfl,rfl,Nat.zero_le _,Nat.zero_le _,Or.inl ⟨rfl,rfl⟩⟩,List.nodup_nil,fun b h=>by simp at h⟩
theorem smp_ok {p:List UInt8} {v:DSample} (h:smpS p=some v):v.ok:=by
 unfold smpS at h
 split at h
 ·rename_i a b _
  cases h1:num a with
  | none=>simp only[h1] at h;cases h
  | some d =>
   cases h2:num b with
   | none=>simp only[h1,h2] at h;cases h
   | some w =>
    simp only[h1,h2] at h;obtain rfl:=Option.some.inj h;exact⟨I64_num h1,I64_num h2⟩
 ·cases h
theorem optAll_ok {ps:List (List UInt8)} {f:List UInt8→Option DSample} (hf:∀ p v,f p=some v→v.ok) {l:List DSample} (h:zal f ps=some l):∀ x ∈ l,x.ok:=by
 induction ps generalizing l with
 | nil =>
  have:l = []:=(Option.some.inj h).symm;subst this;intro x hx;simp at hx
 | cons p ps ih =>
  obtain⟨v,vs,rfl,h1,h2⟩:=zbw h;intro x hx
  rcases List.mem_cons.1 hx with rfl|hx
  ·exact hf p _ h1
  ·exact ih h2 x hx
theorem optAll_take {f:List UInt8→Option DSample} {ps:List (List UInt8)} (k:Nat) (vs:List DSample) (v:DSample) (h:k<ps.length) (hn:zal f (ps.take k)=some vs) (hv:f ps[k]=some v):zal f (ps.take (k+1))=some (vs++[v]):=by
 rw[List.take_succ_eq_append_getElem h,optAll_snoc _ _ _ hn,hv]
theorem eqS_none (s:ByteArray):(s.toList == [110,111,110,101])=decide (bl s=NONE):=by
 rw[Bool.eq_iff_iff,beq_iff_eq,decide_eq_true_eq,ByteArray.toList_eq];exact Iff.rfl
theorem infoSmp:(Tryz.prog.info? 41).map (fun i=>(i.zero,i.size,i.bytes))=some (some (.agg #[.int .i64 0,.int .i64 0]),2,16):=by kernel_rfl
theorem cut_sizes (l:List UInt8) (c:UInt8):(Go.Lib.cut l [c]).1.length≤l.length∧(Go.Lib.cut l [c]).2.1.length≤l.length:=by
 obtain⟨a,r,hs,h1,h2⟩:=cut_split c l;rw[h1,h2];have hj:=zbx c l;rw[hs] at hj;have hl:l.length=(Go.Lib.join (a::r) [c]).length:=by rw[hj]
 cases r with
 | nil=>rw[Go.Lib.join_nil];rw[Go.Lib.join_one] at hl;simp<;>omega
 | cons b r =>
  rw[Go.Lib.join_cons,List.length_append] at hl;have:(Go.Lib.joinTail [c] (b::r)).length=1+(Go.Lib.join (b::r) [c]).length:=by
   rw[Go.Lib.join_cons];simp[Go.Lib.joinTail];omega
  omega
theorem iReadSamples_any (s:ByteArray) (hs:s.size≤1048576) (w:World) (L:LibW w):Calls Tryz.prog 10 #[.string s] w (ReadPS (zas (bl s)) w):=by
 by_cases h0:bl s=NONE
 ·have HE:Hid (zas (bl s)=some []):=by show _=_;unfold zas;rw[if_pos h0]
  have hq:(s.toList == [110,111,110,101])=true:=by rw[eqS_none];exact decide_eq_true h0
  clear h0;rw[HE.out];go_enter Tryz.func10,Tryz.ntmps10;go_wp2;go_ret2;exact⟨none,0,[],rfl,Below.refl _ _,own_nilS _ _ _ rfl,In.nil⟩
 have hq:(s.toList == [110,111,110,101])=false:=by rw[eqS_none];exact decide_eq_false h0
 have H0:=Lib.hid h0;clear h0;have hps:(zbd 32 s).length=(zag 32 64 (bl s)).length:=List.length_map _;have hpg:Hid (∀ k:Nat,((zbd 32 s)[k]?).map bl=(zag 32 64 (bl s))[k]?):=fun k=>by
  simp only[zbd,List.getElem?_map,Option.map_map];rw[show bl ∘ ofL=id from funext fun x=>bl_ofL x];simp
 obtain⟨i0,hi0,hz0,hz1,hz2⟩:=info_parts infoSmp;have HL:=Lib.hid L;have HSP:=Lib.hid (iSplitN_any s 32 hs w L);clear L;go_enter Tryz.func10,Tryz.ntmps10;go_wp2_with fail;refine HSP.out.mono ?_;rintro e w1 ⟨a1,c1,rfl,hb1,hr1,hl65⟩;clear HSP;have HB1:=Lib.hid hb1;have z1:=hb1.size;obtain⟨_,_,e1,_,_,hcl⟩:=Rd.strs hr1;injection e1 with e1 e2 e3;subst e1 e3;clear e2;have HCL:=Lib.hid hcl;clear hb1 hr1 hcl;have hPS:=Lib.hid hps;have HSZ:Hid (∀ p ∈ zbd 32 s,p.size≤1048576):=fun p hp=>Nat.le_trans (words_sizeN _ _ _ hp) hs
 generalize hwd:zbd 32 s=ws at *;generalize hpd:zag 32 64 (bl s)=ps at *;have HPD:=Lib.hid hpd;clear hwd hpd hps;go_wp2;go_loopw [4,19] (fun v i wr=>∃ (k:Nat) (vs:List DSample),k≤ws.length∧i=.int .i64 k∧vs.length=k∧zal smpI (ps.take k)=some vs∧Below w1.heap.size w1 wr∧Grow wr w1.heap.size 41 2 v vs.length (vs.flatMap DSample.tr) []) (fun _ i wr=>ws.length-(intOf i).toNat)
 case atStart=>exact⟨0,[],Nat.zero_le _,rfl,rfl,rfl,Below.refl _ _,by simpa using Grow.nil⟩
 case round =>
  obtain⟨k,vs,hk,rfl,hvl,hns,hb,hgr⟩:=hrel;have HN:=Lib.hid hns;have HB:=Lib.hid hb;have HG:=Lib.hid hgr;have HVL:=Lib.hid hvl;have zr:=hb.size;have hvn:vs.length≤65:=by omega
  clear hb hgr hns hvl
  by_cases hlt:k<ws.length
  ·obtain⟨b,off,ea,hbb,hat⟩:=HCL.out (by omega)
   subst ea;have hc:=hat k hlt;rw[← bat HB.out b _ hbb] at hc;have yb:b<wr.heap.size:=by omega
   have hklp:k<ps.length:=by rw[← hPS.out];exact hlt
   have HPK:Hid (bl ws[k]=ps[k]):=by
    have:=hpg.out k;rw[List.getElem?_eq_getElem hlt,List.getElem?_eq_getElem hklp] at this;exact Option.some.inj this
   have HST:Hid (∀ v,smpI ps[k]=some v→zal smpI (ps.take (k+1))=some (vs++[v])):=fun v hv=>optAll_take k vs v hklp HN.out hv
   have HMEM:=Lib.hid (List.getElem_mem hklp);have hsz:=HSZ.out _ (List.getElem_mem hlt);clear hat;generalize ps[k]=pk at *;clear hklp;generalize ws[k]=p at *;obtain⟨ca,hca⟩:∃ ca,ca=(Go.Lib.cut pk [58]).1:=⟨_,rfl⟩
   obtain⟨cb,hcb⟩:∃ cb,cb=(Go.Lib.cut pk [58]).2.1:=⟨_,rfl⟩
   obtain⟨cf,hcf⟩:∃ cf,cf=(Go.Lib.cut pk [58]).2.2:=⟨_,rfl⟩
   have hlp:pk.length≤1048576:=by rw[← HPK.out,bl_len];exact hsz
   have hza:(ofL ca).size≤1099511627776:=by have:=(cut_sizes pk 58).1;rw[← hca] at this;show ca.length≤_;omega
   have hzb:(ofL cb).size≤1099511627776:=by have:=(cut_sizes pk 58).2;rw[← hcb] at this;show cb.length≤_;omega
   have HCUT:Hid (∀ W,LibW W→Calls Tryz.prog 32 #[.string p,.string ⟨#[58]⟩] W fun e w'=>e=.returned (.tuple #[.string (ofL ca),.string (ofL cb),.bool cf])∧Below W.heap.size W w'):=fun W hW=>by
    obtain⟨m,hm⟩:=hW.m;refine (Tryz.strings_Cut p ⟨#[58]⟩ m W (by omega) hm).mono ?_;rintro e w' ⟨rfl,n,rfl⟩;refine⟨?_,⟨rfl,rfl,rfl,Nat.le_refl _,fun _ _=>rfl⟩⟩;rw[hca,hcb,hcf,← HPK.out];rfl
   have HRA:Hid (∀ W,LibW W→Calls Tryz.prog 33 #[.string (ofL ca)] W fun e w'=>e=.returned (.tuple #[.int .i64 (numV ca),.bool (numB ca)])∧Below W.heap.size W w'):=fun W hW=>by
    have:=readDecimal_any (ofL ca) hza W hW;rw[bl_ofL] at this;exact this
   have HRB:Hid (∀ W,LibW W→Calls Tryz.prog 33 #[.string (ofL cb)] W fun e w'=>e=.returned (.tuple #[.int .i64 (numV cb),.bool (numB cb)])∧Below W.heap.size W w'):=fun W hW=>by
    have:=readDecimal_any (ofL cb) hzb W hW;rw[bl_ofL] at this;exact this
   have HSI:Hid (smpI pk=match num ca,num cb with|some d,some v=>some ⟨d,v⟩|_,_=>none):=by show _=_;unfold smpI;rw[← hca,← hcb];rfl
   have hwr:LibW wr:=HL.out.mono (HB1.out.trans (HB.out.mono z1));have HWR:=Lib.hid hwr;clear hca hcb hcf hza hzb hlp hwr;have bad:Hid (smpI pk=none→zas (bl s)=none):=fun h=>by
    unfold zas;rw[if_neg H0.out,HPD.out,optAll_none pk HMEM.out h]
   cases hna:num ca with
   | none =>
    have HE:=Lib.hid (bad.out (by rw[HSI.out,hna]));rw[(numF _ hna).2,(numF _ hna).1] at HRA;clear hna bad HSI;generalize ofL ca=sa at *;generalize ofL cb=sb at *;generalize numB cb=nb at *;generalize numV cb=nv at *;go_wp2_with fail;refine (HCUT.out _ HWR.out).mono ?_;rintro e w2 ⟨rfl,hb2⟩;go_wp2_with fail;refine (HRA.out _ (HWR.out.mono hb2)).mono ?_;rintro e w3 ⟨rfl,hb3⟩;have hb3:=hb2.trans (hb3.mono hb2.size);go_wp2_with fail;refine (HRB.out _ (HWR.out.mono hb3)).mono ?_;rintro e w4 ⟨rfl,hb4⟩;have HB4:=Lib.hid (hb3.trans (hb4.mono hb3.size));clear hb2 hb3 hb4;go_wp2;go_ret2;rw[HE.out];exact⟨rfl,(HB1.out.trans (HB.out.mono z1)).trans (HB4.out.mono (Nat.le_trans z1 zr))⟩
   | some d =>
    have HDI:=Lib.hid (I64_num hna);rw[(numT _ d hna).2,(numT _ d hna).1] at HRA
    cases hnb:num cb with
    | none =>
     have HE:=Lib.hid (bad.out (by rw[HSI.out,hna,hnb]));rw[(numF _ hnb).2,(numF _ hnb).1] at HRB;clear hna hnb bad HSI;generalize ofL ca=sa at *;generalize ofL cb=sb at *;go_wp2_with fail;refine (HCUT.out _ HWR.out).mono ?_;rintro e w2 ⟨rfl,hb2⟩;go_wp2_with fail;refine (HRA.out _ (HWR.out.mono hb2)).mono ?_;rintro e w3 ⟨rfl,hb3⟩;have hb3:=hb2.trans (hb3.mono hb2.size);go_wp2_with fail;refine (HRB.out _ (HWR.out.mono hb3)).mono ?_;rintro e w4 ⟨rfl,hb4⟩;have HB4:=Lib.hid (hb3.trans (hb4.mono hb3.size));clear hb2 hb3 hb4;go_wp2;go_ret2;rw[HE.out];exact⟨rfl,(HB1.out.trans (HB.out.mono z1)).trans (HB4.out.mono (Nat.le_trans z1 zr))⟩
    | some u =>
     have HUI:=Lib.hid (I64_num hnb);rw[(numT _ u hnb).2,(numT _ u hnb).1] at HRB;have HSN:Hid (zal smpI (ps.take (k+1))=some (vs++[⟨d,u⟩])):=HST.out ⟨d,u⟩ (by rw[HSI.out,hna,hnb]);clear hna hnb bad HSI HST;generalize ofL ca=sa at *;generalize ofL cb=sb at *;go_wp2_with fail;refine (HCUT.out _ HWR.out).mono ?_;rintro e w2 ⟨rfl,hb2⟩;go_wp2_with fail;refine (HRA.out _ (HWR.out.mono hb2)).mono ?_;rintro e w3 ⟨rfl,hb3⟩;have hb3:=hb2.trans (hb3.mono hb2.size);go_wp2_with fail;refine (HRB.out _ (HWR.out.mono hb3)).mono ?_;rintro e w4 ⟨rfl,hb4⟩;have HB4:=Lib.hid (hb3.trans (hb4.mono hb3.size));have z4:=HB4.out.size;have HG4:=Lib.hid (HG.out.below (lo:=0) In.nil HB4.out);clear hb2 hb3 hb4;go_wp2_with (at_builtin;refine za6 rfl (.tmp 45) (.tmp 49) _ rfl (w1.heap.size) 41 i0 _ 2 16 Tryz.underlying24 hi0 hz0 hz1 hz2 rfl (by omega) _ _ _ [] rfl HG4.out [.int .i64 d,.int .i64 u] (DSample.tr ⟨d,u⟩) [] rfl 1 rfl (fun x hx=>by simp at hx;rcases hx with rfl|rfl<;>rfl) (RepV_lits _ [.int .i64 d,.int .i64 u]) List.nodup_nil (fun b h=>by simp at h) 0 In.nil In.nil (by simp) (by simp) (by unfold maxLen;omega) (by omega) (by omega) ?_;intro v2 w5 hgn);have HGN:=Lib.hid hgn;clear hgn;go_wp2;go_roundw
     case rel =>
      refine⟨k+1,vs++[⟨d,u⟩],by omega,by go_num,by rw[List.length_append,HVL.out];rfl,HSN.out,HB.out.trans (Below.trans (HB4.out.mono zr) HGN.out.below),?_⟩;rw[List.length_append,List.flatMap_append]
      simpa using HGN.out.grow
     case measure=>simp[intOf];omega
  ·obtain rfl:k=ws.length:=by omega
   have hn:=HN.out;have hvl:=HVL.out;rw[hPS.out,List.take_length] at hn;obtain⟨av,cv,fv,ev,ov,iv⟩:=HG.out.toOwn (lo:=w1.heap.size) (by omega) In.nil (by omega);subst ev;have HOV:=Lib.hid ov;have HIV:=Lib.hid iv;have HRV:Hid (Rd wr.heap.size wr (DSample.sT vs) (.slice av vs.length cv)):=ov.rd iv;have BW:=Lib.hid (HB1.out.trans (HB.out.mono z1));have hok:∀ x ∈ vs,x.ok:=optAll_ok (fun p v h=>smp_ok (p:=p) (by rw[← smpI_eq];exact h)) hn;have HTX:Hid (∀ W,W=wr→Calls Tryz.prog 11 #[.slice av vs.length cv] W fun e w'=>e=.returned (.string (ofL (zab vs)))∧Below W.heap.size W w'):=fun W hW=>by
    subst hW;exact samplesText_any vs _ _ W (HL.out.mono BW.out) HRV.out (Nat.le_refl _) (by omega) hok
   have HNS:=Lib.hid hn;clear hn hvl HVL HG ov iv hok
   by_cases ht:zab vs=bl s
   ·have HE:Hid (zas (bl s)=some vs):=by
     show _=_
     unfold zas;rw[if_neg H0.out,HPD.out,HNS.out];exact if_pos ht
    have hte:ofL (zab vs)=s:=ofL_eq.2 ht;rw[hte] at HTX;have hqq:(s.toList == s.toList)=true:=beq_iff_eq.2 rfl;have hqn:(s.toList != s.toList)=false:=by unfold bne;rw[hqq];rfl
    clear ht hte;go_wp2_with (go_at_call 11;with_reducible refine (HTX.out _ rfl).mono ?_;rintro e w2 ⟨rfl,hb2⟩);go_ret2;rw[HE.out];exact⟨av,cv,fv,rfl,BW.out.trans (hb2.mono BW.out.size),HOV.out.below HIV.out (Nat.le_refl _) hb2,HIV.out.mono z1 hb2.size⟩
   ·have HE:Hid (zas (bl s)=none):=by
     show _=_
     unfold zas;rw[if_neg H0.out,HPD.out,HNS.out];exact if_neg ht
    obtain⟨tx,htx⟩:∃ tx,tx=ofL (zab vs):=⟨_,rfl⟩
    rw[← htx] at HTX;have hne:eqS tx s=false:=by
     rw[Bool.eq_false_iff];intro e;exact ht (by rw[← bl_ofL (zab vs),← htx,eqS_iff.1 e])
    have hqq:(tx.toList == s.toList)=false:=hne;have hqn:(tx.toList != s.toList)=true:=by unfold bne;rw[hqq];rfl
    clear ht hne htx;go_wp2_with (go_at_call 11;with_reducible refine (HTX.out _ rfl).mono ?_;rintro e w2 ⟨rfl,hb2⟩);go_ret2;rw[HE.out];exact⟨rfl,BW.out.trans (hb2.mono BW.out.size)⟩
end Go.Proofs.YtpodllefipleiaaGreatDoor
