/- Contracts: requests by their ids, and FileRequest of the program: an error and nothing, or the list with the request at its place. Conditions: bounded lengths and texts. -/
import Derived.Test.YtpodllefipleiaaGreatDoorTq1
import Derived.Test.YtpodllefipleiaaGreatDoorInsRequest
import Derived.Test.YtpodllefipleiaaGreatDoorBinRequest
import Derived.Test.YtpodllefipleiaaGreatDoorRq0
set_option linter.unusedVariables false
set_option linter.unusedSimpArgs false
namespace Go.Proofs.YtpodllefipleiaaGreatDoor
open Go.RowKit
set_option maxHeartbeats 16000000
set_option maxRecDepth 100000
theorem zb3 (l:List DRequest) (p:DRequest→Bool) (fn:FuncId) (cap:List Value) (v:Value) (B:Nat) (w:World) (h:Rd B w (DRequest.sT l) v) (hB:B≤w.heap.size) (hn:l.length≤1099511627776)
  (hcf:∀ (args:Array Value) (W:World),(callFunc fn args).run Tryz.prog W=.ok (.enter fn args) W)
  (hf:∀ x ∈ l,∀ W:World,Below w.heap.size w W→Calls Tryz.prog fn (Value.agg #[.string x.id,.string x.applicant,.string x.partner,.int .i64 x.low,.int .i64 x.high,.int .i64 x.filed,.int .i64 x.deadline,.int .i64 x.state]::cap).toArray W fun e W'=>e=.returned (.bool (p x))∧Below W.heap.size W W') :
  Calls Tryz.prog 85 #[v,.func (.func fn) #[] cap.toArray] w fun e w'=>e=.returned (.int .i64 (za4 p l))∧Below w.heap.size w w':=by
 obtain⟨a,c,rfl,hnc,hcm,hcells⟩:=DRequest.rd h;clear h;have hnb:(l.length:Int)≤1099511627776:=by omega
 have HF:=Lib.hid hf;clear hf;go_enter Tryz.func85,Tryz.ntmps85;go_wp2;go_loopw [8] (fun i wr=>∃ (k:Nat),k≤l.length∧i=.int .i64 k∧(l.take k).any p=false∧Below w.heap.size w wr) (fun i wr=>l.length-(intOf i).toNat)
 case atStart=>exact⟨0,Nat.zero_le _,rfl,by simp,Below.refl _ _⟩
 case round =>
  obtain⟨k,hk,rfl,hno,hb⟩:=hrel;have HN:=Lib.hid hno;clear hno
  by_cases hlt:k<l.length
  ·obtain⟨b,off,rfl,hbl,hat⟩:=hcells (by omega)
   obtain⟨s0,s1,s2,s3,s4,s5,s6,s7⟩:=hat k hlt;rw[← hb.cell (p:=⟨b,_,none⟩) (show b<w.heap.size by omega)] at s0 s1 s2 s3 s4 s5 s6 s7;have HB:=Lib.hid hb;clear hcells hat hb;go_wp2_with fail;refine (HF.out l[k] (List.getElem_mem hlt)  _ HB.out).mono ?_;rintro e w1 ⟨rfl,hb1⟩;have HB1:=Lib.hid (HB.out.trans (hb1.mono HB.out.size));clear hb1
   by_cases hp:p l[k]=true
   ·go_wp2
    go_ret;exact⟨by rw[zce p l k hlt hp HN.out];rfl,HB1.out⟩
   ·have hp':p l[k]=false:=by simpa using hp
    clear hp;go_wp2;go_roundw
    case rel=>exact⟨k+1,by omega,by go_num,by rw[any_take_succ p l k hlt,HN.out,hp'];rfl,HB1.out⟩
    case measure=>simp[intOf];omega
  ·obtain rfl:k=l.length:=by omega
   clear hcells;go_wp2;go_ret;have:=HN.out;rw[List.take_length] at this;exact⟨by rw[firstIdx_none p l this];rfl,hb⟩
theorem zcy (l:List DRequest) (p:DRequest→Bool) (fn:FuncId) (cap:List Value) (v:Value) (B:Nat) (w:World) (h:Rd B w (DRequest.sT l) v) (hB:B≤w.heap.size) (hn:l.length≤1099511627776)
  (hcf:∀ (args:Array Value) (W:World),(callFunc fn args).run Tryz.prog W=.ok (.enter fn args) W)
  (hf:∀ x ∈ l,∀ W:World,Below w.heap.size w W→Calls Tryz.prog fn (Value.agg #[.string x.id,.string x.applicant,.string x.partner,.int .i64 x.low,.int .i64 x.high,.int .i64 x.filed,.int .i64 x.deadline,.int .i64 x.state]::cap).toArray W fun e W'=>e=.returned (.bool (p x))∧Below W.heap.size W W') :
  Calls Tryz.prog 60 #[v,.func (.func fn) #[] cap.toArray] w fun e w'=>e=.returned (.bool (l.any p))∧Below w.heap.size w w':=by
 have HC:=Lib.hid (zb3 l p fn cap v B w h hB hn hcf hf);have HE:=Lib.hid (firstIdx_nonneg' p l);clear hf h hcf;generalize l.any p=r at *;go_enter Tryz.func60,Tryz.ntmps60;go_wp2_with fail;refine (HC.out).mono ?_;rintro e w1 ⟨rfl,hb1⟩;have he:=HE.out;generalize za4 p l=m at *;go_wp2;go_ret;exact⟨rfl,hb1⟩
theorem reqAtClosure_any (x:DRequest) (id:ByteArray) (b:Nat) (w:World) (k0:w.cell? ⟨b,0,none⟩=some (.string id)) (yb:b<w.heap.size) :
  Calls Tryz.prog 86 #[.agg #[.string x.id,.string x.applicant,.string x.partner,.int .i64 x.low,.int .i64 x.high,.int .i64 x.filed,.int .i64 x.deadline,.int .i64 x.state],.pointer (some ⟨b,0,none⟩)] w fun e w'=>e=.returned (.bool (eqS x.id id))∧Below w.heap.size w w':=by
 go_enter Tryz.func86,Tryz.ntmps86;go_upto_region 1 with (fail);obtain⟨W1,hW1,b1,z1,kx⟩:=zas w #[.string x.id,.string x.applicant,.string x.partner,.int .i64 x.low,.int .i64 x.high,.int .i64 x.filed,.int .i64 x.deadline,.int .i64 x.state] 45;rw[hW1];clear hW1;have HB:=Lib.hid b1;have s0:=bkC (v:=.string x.id) kx 0 rfl;rw[← bat b1 b _ yb] at k0;clear b1 kx;go_wp2;go_ret;exact⟨rfl,HB.out⟩
theorem zb6 (l:List DRequest) (id:ByteArray) (v:Value) (B:Nat) (w:World) (h:Rd B w (DRequest.sT l) v) (hB:B≤w.heap.size) (hn:l.length≤1099511627776) :
  Calls Tryz.prog 47 #[v,.string id] w fun e w'=>e=.returned (.int .i64 (idxReq l id))∧Below w.heap.size w w':=by
 have H0:=Lib.hid h;clear h;go_enter Tryz.func47,Tryz.ntmps47;go_upto_region 1 with (fail);obtain⟨W1,hW1,b1,z1,kx⟩:=zas w #[.string id] 9;rw[hW1];clear hW1;have HB:=Lib.hid b1;have HC:=Lib.hid (zb3 l (fun x:DRequest=>eqS x.id id) 86 [.pointer (some ⟨w.heap.size,0,none⟩)] v B W1 (H0.out.below (b1.mono hB)) (by omega) hn (fun _ _=>by kernel_rfl) (fun x hx W hW=>reqAtClosure_any x id w.heap.size W (bkC (bkB kx hW (by omega)) 0 rfl) (by have:=hW.size;omega)));clear b1 kx H0;obtain⟨ix,hix⟩:∃ ix,ix=idxReq l id:=⟨_,rfl⟩
 have HIX:=Lib.hid hix;clear hix;go_wp2_with (fail)
 go_at_call 85
 refine HC.out.mono ?_;rintro e w2 ⟨rfl,b2⟩;have HB2:=Lib.hid (HB.out.trans (b2.mono (by omega)));clear b2 HC;go_wp2;go_ret;exact⟨rfl,HB2.out⟩
structure CloR (w:World) (lo base top:Nat) (v:Value) (l:List DRequest):Prop where
 blk:∀ g,v.ownBlock=some g→g<top
 lo:lo≤base
 hi:base≤w.heap.size
 row:w.ownsRow base 45 8 v l.length (l.flatMap DRequest.vs)
theorem CloR.below {w w':World} {lo base top:Nat} {v:Value} {l:List DRequest} (h:CloR w lo base top v l) (_:True) (_:0≤base) (hb:Below w.heap.size w w'):CloR w' lo base top v l :=
 ⟨h.blk,h.lo,Nat.le_trans h.hi hb.size,zb7 h.row (fun g hg=>hb.block g (za7 h.row hg).2)⟩
theorem cloneRequest_row (l:List DRequest) (v:Value) (B:Nat) (w:World) (h:Rd B w (DRequest.sT l) v) (hB:B≤w.heap.size) (hn:l.length≤1048576) :
  Calls Tryz.prog 52 #[v] w fun e w'=>∃ a' c' base,e=.returned (.slice a' l.length c')∧Below w.heap.size w w'∧CloR w' w.heap.size base w'.heap.size (.slice a' l.length c') l∧True:=by
 refine (cloneRequest_raw l v B w h hB hn).mono ?_;rintro e w' ⟨a',c',xs,rfl,hb,ho,hx⟩;rw[flat_lits DRequest.tr DRequest.vs DRequest.tr_vs] at hx;rw[RdV_vals _ _ hx] at ho;exact⟨a',c',w.heap.size,rfl,hb,⟨fun g hg=>(za7 ho hg).2,Nat.le_refl _,hb.size,ho⟩,trivial⟩
def FileP (l:List DRequest) (x:DRequest) (w:World) (e:Ending) (w':World):Prop:=Below w.heap.size w w'∧((∃ cd:Int,cd≠0∧e=.returned (.tuple #[.slice none 0 0,.int .i64 cd]))∨∃ (k:Nat) (a:Option Addr) (c:Nat) (fp:List Nat),za6 l=true∧reqB x=true∧x.state=1∧l.length<24∧Fits l x.id k∧l.any (fun y:DRequest=>eqS y.id x.id)=false∧e=.returned (.tuple #[.slice a (zao l x k).length c,.int .i64 0])∧Own w' (DRequest.sT (zao l x k)) (.slice a (zao l x k).length c) fp∧In w.heap.size w'.heap.size fp)
theorem fitsReq_of {l:List DRequest} {id:ByteArray} {k:Nat} (hk:k≤l.length) (h1:0<k→zbe l id (k-1)=true) (h2:k<l.length→zbe l id k=false) (hno:l.any (fun y:DRequest=>eqS y.id id)=false):Fits l id k:=by
 refine⟨hk,fun h=>?_,fun h=>?_⟩
 ·have:=h1 h
  rwa [zb9 (by omega),cmpS_lt] at this
 ·have:=h2 h
  rw[zb9 h,cmpS_lt] at this;refine ltS_of_not this ?_;have hn:=List.any_eq_false.1 hno l[k] (List.getElem_mem h);rw[Bool.eq_false_iff];intro e;exact hn (zcm.2 (zcm.1 e).symm)
theorem idx_neg {l:List DRequest} {id:ByteArray} (h:¬ 0≤idxReq l id):l.any (fun y:DRequest=>eqS y.id id)=false:=by
 rw[Bool.eq_false_iff];intro ha;obtain⟨y,hy,hp⟩:=List.any_eq_true.1 ha;have hex:∃ y ∈ l,eqS y.id id=true:=⟨y,hy,hp⟩
 have:=zce (fun y:DRequest=>eqS y.id id) l _ (List.findIdx_lt_length_of_exists hex) (by have:=List.findIdx_getElem (xs:=l) (p:=fun y:DRequest=>eqS y.id id) (w:=List.findIdx_lt_length_of_exists hex);simpa using this) (by
  rw[List.any_eq_false];intro z hz;obtain⟨i,hi,rfl⟩:=List.getElem_of_mem hz;rw[List.length_take] at hi;rw[List.getElem_take];have:=List.not_of_lt_findIdx (show i<l.findIdx (fun y:DRequest=>eqS y.id id) by omega)
  simpa using this)
 unfold idxReq at h;omega
theorem iFileRequest_any (l:List DRequest) (x:DRequest) (hx:x.ok) (v:Value) (w:World) (h:Rd w.heap.size w (DRequest.sT l) v) (hk:∀ y ∈ l,y.ok) (hn:l.length≤1000) :
  Calls Tryz.prog 15 #[v,.agg #[.string x.id,.string x.applicant,.string x.partner,.int .i64 x.low,.int .i64 x.high,.int .i64 x.filed,.int .i64 x.deadline,.int .i64 x.state]] w (FileP l x w):=by
 have HOK:=Lib.hid fun (W:World) (hW:Below w.heap.size w W)=>zav l v w.heap.size W (h.below hW) hW.size hk (by omega)
 have HFI:=Lib.hid fun (W:World) (hW:Below w.heap.size w W)=>zb6 l x.id v w.heap.size W (h.below hW) hW.size (by omega)
 have HBI:=Lib.hid fun (W:World) (hW:Below w.heap.size w W)=>binRequest_any l x v W ((h.below hW).mono hW.size) (by omega)
 have HCL:=Lib.hid fun (W:World) (hW:Below w.heap.size w W)=>cloneRequest_row l v w.heap.size W (h.below hW) hW.size (by omega)
 obtain⟨a,c,rfl,hnc,hcm,hcl⟩:=DRequest.rd h;have lni:(l.length:Int)≤1000:=by omega
 have HVX:Hid (∀ W:World,Calls Tryz.prog 46 #[.agg #[.string x.id,.string x.applicant,.string x.partner,.int .i64 x.low,.int .i64 x.high,.int .i64 x.filed,.int .i64 x.deadline,.int .i64 x.state]] W fun e w'=>e=.returned (.bool (reqB x))∧Below W.heap.size W w'):=fun W=>zb1 x hx.id hx.applicant hx.partner W
 clear h hcl hk hx;go_enter Tryz.func15,Tryz.ntmps15;go_upto_region 1 with (fail);obtain⟨W0,hW0,b0,z0,k0⟩:=zas w #[.string x.id,.string x.applicant,.string x.partner,.int .i64 x.low,.int .i64 x.high,.int .i64 x.filed,.int .i64 x.deadline,.int .i64 x.state] 45;rw[hW0];clear hW0;have B0:=Lib.hid b0;have K0:=Lib.hid k0;clear b0 k0;go_wp2_with (fail)
 go_at_call 18
 refine (HOK.out W0 B0.out).mono ?_;rintro e W1 ⟨rfl,b1⟩;have z1:=b1.size;have B1:=Lib.hid (B0.out.trans (b1.mono (by omega)));have K1:=Lib.hid (bkB K0.out b1 (by omega));clear b1 K0 B0 HOK
 cases hok:za6 l with
 | false =>
  clear hok;go_wp2;go_ret2;exact⟨B1.out,Or.inl ⟨1,by decide,rfl⟩⟩
 | true =>
  have x0:=bkC K1.out 0 rfl;have x1:=bkC K1.out 1 rfl;have x2:=bkC K1.out 2 rfl;have x3:=bkC K1.out 3 rfl;have x4:=bkC K1.out 4 rfl;have x5:=bkC K1.out 5 rfl;have x6:=bkC K1.out 6 rfl;have x7:=bkC K1.out 7 rfl;go_wp2_with (fail)
  go_at_call 46
  refine (HVX.out W1).mono ?_;rintro e W2 ⟨rfl,b2⟩;have z2:=b2.size;have B2:=Lib.hid (B1.out.trans (b2.mono (by omega)));have K2:=Lib.hid (bkB K1.out b2 (by omega));clear b2 K1 B1 HVX x0 x1 x2 x3 x4 x5 x6 x7
  cases hone:reqB x with
  | false =>
   clear hone hok;go_wp2;go_ret2;exact⟨B2.out,Or.inl ⟨2,by decide,rfl⟩⟩
  | true =>
   have x7:=bkC K2.out 7 rfl
   by_cases hst:x.state=1
   case neg =>
    have hsb:(x.state != 1)=true:=by rw[bne_iff_ne];exact hst
    clear hst hok hone;go_wp2;go_ret2;exact⟨B2.out,Or.inl ⟨2,by decide,rfl⟩⟩
   have hsb:(x.state != 1)=false:=by rw[hst];rfl
   have x0:=bkC K2.out 0 rfl;have HV0:=Lib.hid (And.intro hok (And.intro hone hst));clear hok hone hst;go_wp2_with (fail)
   go_at_call 47
   refine (HFI.out W2 B2.out).mono ?_;rintro e W3 ⟨rfl,b3⟩;have z3:=b3.size;have B3:=Lib.hid (B2.out.trans (b3.mono (by omega)));have K3:=Lib.hid (bkB K2.out b3 (by omega));clear b3 HFI hsb x7 x0 B2 K2;have HNN:=Lib.hid (idx_neg (l:=l) (id:=x.id));generalize idxReq l x.id=ix at *
   by_cases hix:0≤ix
   ·have hxg:decide (ix ≥ 0)=true:=decide_eq_true hix
    clear hix;go_wp2;go_ret2;exact⟨B3.out,Or.inl ⟨4,by decide,rfl⟩⟩
   have HNO:=Lib.hid (HNN.out hix);have hxg:decide (ix ≥ 0)=false:=decide_eq_false hix;clear hix HNN
   by_cases h24:(l.length:Int)=24
   ·have hq:((l.length:Int) == 24)=true:=by rw[beq_iff_eq];exact h24
    clear h24;go_wp2;go_ret2;exact⟨B3.out,Or.inl ⟨5,by decide,rfl⟩⟩
   have hq:((l.length:Int) == 24)=false:=by rw[beq_eq_false_iff_ne];exact h24
   have h24':l.length<24:=by
    have h1:=HV0.out.1;unfold za6 at h1;rw[Bool.and_eq_true,decide_eq_true_eq] at h1;omega
   have HV:Hid (za6 l=true∧reqB x=true∧x.state=1∧l.length<24):=⟨HV0.out.1,HV0.out.2.1,HV0.out.2.2,h24'⟩
   clear h24 h24' HV0;have x0:=bkC K3.out 0 rfl;have x1:=bkC K3.out 1 rfl;have x2:=bkC K3.out 2 rfl;have x3:=bkC K3.out 3 rfl;have x4:=bkC K3.out 4 rfl;have x5:=bkC K3.out 5 rfl;have x6:=bkC K3.out 6 rfl;have x7:=bkC K3.out 7 rfl;go_wp2_with (fail)
   go_at_call 48
   refine (HBI.out W3 B3.out).mono ?_;rintro e W4 ⟨k,fd,hk,rfl,b4,h1,h2⟩;have z4:=b4.size;have B4:=Lib.hid (B3.out.trans (b4.mono (by omega)));have HFT:=Lib.hid (fitsReq_of hk h1 h2 HNO.out);have K4:=Lib.hid (bkB K3.out b4 (by omega));have CC:=Lib.hid fun (W:World) (hW:Below W4.heap.size W4 W)=>HCL.out W (B4.out.trans (hW.mono (by omega)))
   have HD:Hid (∀ W,Below W4.heap.size W4 W→W.cell? ⟨w.heap.size,0,none⟩=some (.string x.id)∧W.cell? ⟨w.heap.size,1,none⟩=some (.string x.applicant)∧W.cell? ⟨w.heap.size,2,none⟩=some (.string x.partner)∧W.cell? ⟨w.heap.size,3,none⟩=some (.int .i64 x.low)∧W.cell? ⟨w.heap.size,4,none⟩=some (.int .i64 x.high)∧W.cell? ⟨w.heap.size,5,none⟩=some (.int .i64 x.filed)∧W.cell? ⟨w.heap.size,6,none⟩=some (.int .i64 x.deadline)∧W.cell? ⟨w.heap.size,7,none⟩=some (.int .i64 x.state)):=fun W hW=>⟨bkC (bkB K4.out hW (by omega)) 0 rfl,bkC (bkB K4.out hW (by omega)) 1 rfl,bkC (bkB K4.out hW (by omega)) 2 rfl,bkC (bkB K4.out hW (by omega)) 3 rfl,bkC (bkB K4.out hW (by omega)) 4 rfl,bkC (bkB K4.out hW (by omega)) 5 rfl,bkC (bkB K4.out hW (by omega)) 6 rfl,bkC (bkB K4.out hW (by omega)) 7 rfl⟩
   have BS:=Lib.hid (Below.refl W4.heap.size W4);have yw:w.heap.size≤W4.heap.size:=by omega
   clear b4 h1 h2 hq hxg x0 x1 x2 x3 x4 x5 x6 x7 B3 K3 HBI HCL;go_upto_region 10 with (fail);refine wp_region_tree 5 (.read 0 (.read 2 (.read 3 (.two 1 4 (.one 4 .nil) (.one 1 .nil))))) (fun W=>Below W4.heap.size W4 W) (by kernel_rfl) (by kernel_rfl) (BS.out.drew) ?_;have YB:=Lib.hid (BS.out.drew);have Yz:W4.heap.size≤W4.drew.heap.size:=Nat.le_refl _;generalize W4.drew=Y at *
   iterate 3
    refine wpTree_read (v:=?_) rfl (fun _ _ _ h=>h) ?_ ?_
    rotate_left
    ·(intro W hSW;(try dsimp only at hSW);obtain⟨t0,t1,t2,t3,t4,t5,t6,t7⟩:=HD.out W hSW;(go_simp<;>with_reducible rfl))
    (try simp only[Act.put,List.setIfInBounds_toArray,List.set_cons_zero,List.set_cons_succ])
   refine wpTree_two ?_ ?_;refine stepT_mk rfl (fun K hK=>?_);go_simp;refine ((fun W (hW:Below W4.heap.size W4 W)=>CC.out W hW) _ YB.out).mono ?_;rintro e Y1 ⟨q_a,q_c,q_b,rfl,hb1,ho1,hi1⟩;have YB1:=btr YB hb1;refine hK.out _ _ YB1.out ?_;clear hK K;have bs1:=hb1.size;have Yoq1:=Lib.hid ho1;have Yiq1:=Lib.hid hi1;clear ho1 hi1;clear hb1;refine wpTree_one ?_;refine stepT_mk rfl (fun K hK=>?_);go_simp;obtain⟨Y2,hW2,hb2,zl2,hk2⟩:=zas Y1 #[.string x.id,.string x.applicant,.string x.partner,.int .i64 x.low,.int .i64 x.high,.int .i64 x.filed,.int .i64 x.deadline,.int .i64 x.state] 45;rw[hW2];have Ykb2:=Lib.hid hk2;have YB2:=btr YB1 hb2;have Yoq2:=Lib.hid (Yoq1.out.below Yiq1.out (by omega) hb2);refine hK.out _ _ YB2.out ?_;have bs2:=hb2.size;clear hK K hW2 hk2 hb2;refine wpTree_nil ?_;simp only[List.drop_succ_cons,List.drop_zero];have HIN:=Lib.hid (zcq l x k hk q_a q_c q_b (Y1.heap.size) Y2 Yoq2.out.row (by have:=Yoq2.out.lo;have:=Yoq2.out.hi;omega) Ykb2.out (fun e=>by have:=za7 Yoq2.out.row e;have:=Yoq2.out.blk _ e;have:=Yoq2.out.lo;have:=Yoq2.out.hi;omega) (by omega));have HQO:=Lib.hid (show W4.heap.size≤q_b∧(∀ g,(Value.slice q_a l.length q_c).ownBlock=some g→q_b≤g) from ⟨by have:=Yoq2.out.lo;omega,fun g hg=>(za7 Yoq2.out.row hg).1⟩);have HBQ:=Lib.hid (YB2.out);have zcur:W4.heap.size≤Y2.heap.size:=HBQ.out.size;go_wp2_with (go_at_call 51;refine HIN.out.mono ?_;rintro e w9 ⟨a9,c9,rfl,hins⟩);obtain⟨fp9,ho9,hi9,_⟩:=rowOwnB hins.own (by decide) (lo:=w.heap.size) (by have:=HQO.out.1;omega);rw[← DRequest.sT_vs] at ho9;have hlen:(zao l x k).length=l.length+1:=zaz l x hk;have HOO:=Lib.hid (And.intro ho9 hi9);have hbl:Below W4.heap.size W4 w9:=HBQ.out.grown hins.grown zcur (fun g hg=>by have:=HQO.out.2 g hg;have:=HQO.out.1;omega);go_ret2;refine⟨B4.out.trans (hbl.mono (by omega)),Or.inr ⟨k,a9,c9,fp9,HV.out.1,HV.out.2.1,HV.out.2.2.1,HV.out.2.2.2,HFT.out,HNO.out,by rw[hlen];rfl,?_⟩⟩;rw[hlen];exact⟨HOO.out.1,HOO.out.2⟩;refine stepT_mk rfl (fun K hK=>?_);go_simp;obtain⟨Y3,hW3,hb3,zl3,hk3⟩:=zas Y #[.string x.id,.string x.applicant,.string x.partner,.int .i64 x.low,.int .i64 x.high,.int .i64 x.filed,.int .i64 x.deadline,.int .i64 x.state] 45;rw[hW3];have Ykb3:=Lib.hid hk3;have YB3:=btr YB hb3;refine hK.out _ _ YB3.out ?_;have bs3:=hb3.size;clear hK K hW3 hk3 hb3;refine wpTree_one ?_;refine stepT_mk rfl (fun K hK=>?_);go_simp;refine ((fun W (hW:Below W4.heap.size W4 W)=>CC.out W hW) _ YB3.out).mono ?_;rintro e Y4 ⟨q_a,q_c,q_b,rfl,hb4,ho4,hi4⟩;have YB4:=btr YB3 hb4;refine hK.out _ _ YB4.out ?_;clear hK K;have bs4:=hb4.size;have Yoq4:=Lib.hid ho4;have Yiq4:=Lib.hid hi4;clear ho4 hi4;have Ykb4:=bkH Ykb3 hb4;clear hb4;refine wpTree_nil ?_;simp only[List.drop_succ_cons,List.drop_zero];have HIN:=Lib.hid (zcq l x k hk q_a q_c q_b (Y.heap.size) Y4 Yoq4.out.row (by have:=Yoq4.out.lo;have:=Yoq4.out.hi;omega) Ykb4.out (fun e=>by have:=za7 Yoq4.out.row e;have:=Yoq4.out.blk _ e;have:=Yoq4.out.lo;have:=Yoq4.out.hi;omega) (by omega));have HQO:=Lib.hid (show W4.heap.size≤q_b∧(∀ g,(Value.slice q_a l.length q_c).ownBlock=some g→q_b≤g) from ⟨by have:=Yoq4.out.lo;omega,fun g hg=>(za7 Yoq4.out.row hg).1⟩);have HBQ:=Lib.hid (YB4.out);have zcur:W4.heap.size≤Y4.heap.size:=HBQ.out.size;go_wp2_with (go_at_call 51;refine HIN.out.mono ?_;rintro e w9 ⟨a9,c9,rfl,hins⟩);obtain⟨fp9,ho9,hi9,_⟩:=rowOwnB hins.own (by decide) (lo:=w.heap.size) (by have:=HQO.out.1;omega);rw[← DRequest.sT_vs] at ho9;have hlen:(zao l x k).length=l.length+1:=zaz l x hk;have HOO:=Lib.hid (And.intro ho9 hi9);have hbl:Below W4.heap.size W4 w9:=HBQ.out.grown hins.grown zcur (fun g hg=>by have:=HQO.out.2 g hg;have:=HQO.out.1;omega);go_ret2;refine⟨B4.out.trans (hbl.mono (by omega)),Or.inr ⟨k,a9,c9,fp9,HV.out.1,HV.out.2.1,HV.out.2.2.1,HV.out.2.2.2,HFT.out,HNO.out,by rw[hlen];rfl,?_⟩⟩;rw[hlen];exact⟨HOO.out.1,HOO.out.2⟩
end Go.Proofs.YtpodllefipleiaaGreatDoor
