/- Contract: FileRequest of the reference: an error and nothing, or some list that has the request. Conditions: small requests, a bounded length. -/
import Derived.Test.YtpodllefipleiaaGreatDoorTq1
set_option linter.unusedVariables false
set_option linter.unusedSimpArgs false
namespace Go.Proofs.YtpodllefipleiaaGreatDoor
open Go.RowKit
set_option maxHeartbeats 16000000
set_option maxRecDepth 100000
def FileD (l:List DRequest) (x:DRequest) (w:World) (e:Ending) (w':World):Prop:=Below w.heap.size w w'∧((∃ cd:Int,cd≠0∧e=.returned (.tuple #[.slice none 0 0,.int .i64 cd]))∨∃ (r:List DRequest) (a:Option Addr) (c:Nat) (fp:List Nat),e=.returned (.tuple #[.slice a r.length c,.int .i64 0])∧r.length≤l.length+1∧(∀ y ∈ r,SmR y)∧x ∈ r∧Own w' (DRequest.sT r) (.slice a r.length c) fp∧In w.heap.size w'.heap.size fp)
theorem own_emptyR (w:World) (E:Nat):(w.alloc (.cells #[] E)).ownsRow w.heap.size E 8 (.slice (some ⟨w.heap.size,0,none⟩) 0 0) 0 [] :=
 ⟨rfl,Or.inr ⟨w.heap.size,0,#[],rfl,Nat.le_refl _,by show (w.heap.push _)[w.heap.size]? = _;simp,Nat.le_refl _,Nat.zero_le _,rfl,by simp⟩⟩
theorem grow_emptyR (w:World) (E:Nat):Grow (w.alloc (.cells #[] E)) w.heap.size E 8 (.slice (some ⟨w.heap.size,0,none⟩) 0 0) 0 [] []:=⟨⟨[],own_emptyR w E,rfl⟩,List.nodup_nil,fun b h=>by simp at h,fun g _=>by simp⟩
theorem infoReqD:(Tryz.prog.info? 45).map (fun i=>(i.zero,i.size,i.bytes))=some (some (.agg #[.string ⟨#[]⟩,.string ⟨#[]⟩,.string ⟨#[]⟩,.int .i64 0,.int .i64 0,.int .i64 0,.int .i64 0,.int .i64 0]),8,88):=by kernel_rfl
theorem sFileRequest_any (l:List DRequest) (x:DRequest) (hx:SmR x) (v:Value) (w:World) (h:Rd w.heap.size w (DRequest.sT l) v) (hk:∀ y ∈ l,SmR y) (hn:l.length≤1000) :
  Calls Tryz.prog 80 #[v,.agg #[.string x.id,.string x.applicant,.string x.partner,.int .i64 x.low,.int .i64 x.high,.int .i64 x.filed,.int .i64 x.deadline,.int .i64 x.state]] w (FileD l x w):=by
 have HOK:=Lib.hid fun (W:World) (hW:Below w.heap.size w W)=>sl27Ok_any l v w.heap.size W (h.below hW) hW.size (fun y hy=>(hk y hy).ok) (by omega)
 have HFI:=Lib.hid fun (W:World) (hW:Below w.heap.size w W)=>l27Find_any l x.id v w.heap.size W (h.below hW) hW.size (by omega)
 obtain⟨i0,hi0,hz0,hz1,hz2⟩:=info_partsS infoReqD;obtain⟨a,c,rfl,hnc,hcm,hcl⟩:=DRequest.rd h;have HCL:=Lib.hid hcl;have HKS:=Lib.hid hk;have HX:=Lib.hid hx;have lni:(l.length:Int)≤1000:=by omega
 clear h hcl hk hx;go_enter Tryz.func80,Tryz.ntmps80;go_upto_region 1 with (fail);obtain⟨W0,hW0,b0,z0,k0⟩:=zas w #[.string x.id,.string x.applicant,.string x.partner,.int .i64 x.low,.int .i64 x.high,.int .i64 x.filed,.int .i64 x.deadline,.int .i64 x.state] 45;rw[hW0];clear hW0;have B0:=Lib.hid b0;have K0:=Lib.hid k0;clear b0 k0;go_wp2_with (fail)
 go_at_call 105
 refine (HOK.out W0 B0.out).mono ?_;rintro e W1 ⟨rfl,b1⟩;have z1:=b1.size;have B1:=Lib.hid (B0.out.trans (b1.mono (by omega)));have K1:=Lib.hid (bkB K0.out b1 (by omega));clear b1 K0 B0 HOK
 cases hok:za6 l with
 | false =>
  clear hok;go_wp2;go_ret2;exact⟨B1.out,Or.inl ⟨1,by decide,rfl⟩⟩
 | true =>
  clear hok;have HON:=Lib.hid (l27One_any x w.heap.size 0 W1 (bkC K1.out 0 rfl) (bkC K1.out 1 rfl) (bkC K1.out 2 rfl) (bkC K1.out 3 rfl) (bkC K1.out 4 rfl) (bkC K1.out 5 rfl) (bkC K1.out 6 rfl) (bkC K1.out 7 rfl) HX.out.ok.id HX.out.ok.applicant HX.out.ok.partner);go_wp2_with (fail)
  go_at_call 106
  refine HON.out.mono ?_;rintro e W2 ⟨rfl,b2⟩;have z2:=b2.size;have B2:=Lib.hid (B1.out.trans (b2.mono (by omega)));have K2:=Lib.hid (bkB K1.out b2 (by omega));clear b2 K1 B1 HON
  cases hone:reqS x with
  | false =>
   clear hone;go_wp2;go_ret2;exact⟨B2.out,Or.inl ⟨2,by decide,rfl⟩⟩
  | true =>
   clear hone;have x7:=bkC K2.out 7 rfl;have HX7:=Lib.hid x7
   by_cases hst:x.state=1
   case neg =>
    have hsb:(x.state != 1)=true:=by rw[bne_iff_ne];exact hst
    clear hst;generalize x.state=st at *;go_wp2;go_ret2;exact⟨B2.out,Or.inl ⟨2,by decide,rfl⟩⟩
   have hsb:(x.state != 1)=false:=by rw[hst];rfl
   clear hst;have x0:=bkC K2.out 0 rfl;go_wp2_with (fail)
   go_at_call 81
   refine (HFI.out W2 B2.out).mono ?_;rintro e W3 ⟨rfl,rfl⟩;clear HFI hsb x7 HX7;generalize za4 (fun y:DRequest=>eqS y.id x.id) l=ix at *
   by_cases hix:0≤ix
   ·have hxg:decide (ix ≥ 0)=true:=decide_eq_true hix
    clear hix;go_wp2;go_ret2;exact⟨B2.out,Or.inl ⟨4,by decide,rfl⟩⟩
   have hxg:decide (ix ≥ 0)=false:=decide_eq_false hix;clear hix
   by_cases h24:(l.length:Int)=24
   ·have hq:((l.length:Int) == 24)=true:=by rw[beq_iff_eq];exact h24
    clear h24;go_wp2;go_ret2;exact⟨B2.out,Or.inl ⟨5,by decide,rfl⟩⟩
   have hq:((l.length:Int) == 24)=false:=by rw[beq_eq_false_iff_ne];exact h24
   clear h24;have GE:=Lib.hid (grow_emptyR W2 45);obtain⟨base,hbase⟩:∃ base,base=W2.heap.size:=⟨_,rfl⟩
   go_wp2;clear x0 hxg hq;go_loopw [6,7,8] (fun v d i wr=>∃ (k:Nat) (vs:List DRequest) (dn:Bool),k≤l.length∧i=.int .i64 k∧d=.bool dn∧vs.length=k+(if dn then 1 else 0)∧(∀ y ∈ vs,SmR y)∧(dn=true→x ∈ vs)∧Below W2.heap.size W2 wr∧W2.heap.size+1≤wr.heap.size∧Grow wr base 45 8 v vs.length (vs.flatMap DRequest.tr) []) (fun _ _ i wr=>l.length-(intOf i).toNat)
   case atStart=>exact⟨0,[],false,Nat.zero_le _,rfl,rfl,rfl,fun y hy=>by simp at hy,fun h=>(by cases h),zaj _ _,by simp,hbase ▸ GE.out⟩
   case round =>
    obtain⟨k,vs,dn,hk,rfl,rfl,hvl,hsm,hin,hb,hzr,hgr⟩:=hrel;have HB:=Lib.hid hb;have HG:=Lib.hid hgr;have HSM:=Lib.hid hsm;have HIN:=Lib.hid hin;have HVL:=Lib.hid hvl;have hvn:vs.length≤1001:=by rw[hvl];split<;>omega
    have zw:=B2.out.size;have HBW:=Lib.hid (B2.out.trans (hb.mono zw));have hkx:=bkB K2.out hb (by omega);have KX:=Lib.hid hkx;clear hb hgr hsm hin hvl GE
    by_cases hlt:k<l.length
    ·obtain⟨b,off,rfl,hbl,hat⟩:=HCL.out (by omega)
     obtain⟨c0,c1,c2,c3,c4,c5,c6,c7⟩:=hat k hlt;have HY:=Lib.hid (HKS.out l[k] (List.getElem_mem hlt));rw[← bat HBW.out b _ hbl] at c0 c1 c2 c3 c4 c5 c6 c7;clear hat;generalize l[k]=y at *;have yb:b<wr.heap.size:=by have:=HBW.out.size;omega
     have yx:w.heap.size<wr.heap.size:=by omega
     have lki:(k:Int)<(l.length:Int):=by omega
     have x0:=bkC hkx 0 rfl;have HC:=Lib.hid (And.intro c0 (And.intro c1 (And.intro c2 (And.intro c3 (And.intro c4 (And.intro c5 (And.intro c6 c7)))))));have oB:=za2 (w0:=wr) yb;have oX:=za2 (w0:=wr) yx
     cases dn with
     | true =>
      go_upto_region 14 with (fail);refine zac wr.heap.size wr (Below.refl _ _) (by kernel_rfl) (by kernel_rfl) ?_
      repeat (go_big_quiet_step (fail))
      refine wpQuiet_nil ?_;rintro _ ⟨X,rfl⟩;have hX:=zad wr.heap.size wr X;clear oB oX;generalize over wr.heap.size wr X=wz at *;have zz:=hX.size;have HGZ:=Lib.hid (HG.out.below (lo:=0) In.nil hX);have HBZ:=Lib.hid (HB.out.trans (hX.mono (by omega)));have kxz:=bkB KX.out hX yx;clear x0;have d0:=(bat hX b _ yb).trans HC.out.1;have d1:=(bat hX b _ yb).trans HC.out.2.1;have d2:=(bat hX b _ yb).trans HC.out.2.2.1;have d3:=(bat hX b _ yb).trans HC.out.2.2.2.1;have d4:=(bat hX b _ yb).trans HC.out.2.2.2.2.1;have d5:=(bat hX b _ yb).trans HC.out.2.2.2.2.2.1;have d6:=(bat hX b _ yb).trans HC.out.2.2.2.2.2.2.1;have d7:=(bat hX b _ yb).trans HC.out.2.2.2.2.2.2.2;clear hX kxz;go_upto_region 17 with (fail);go_wp2_with (at_builtin;refine zat rfl (.tmp 50) (.tmp 55) _ rfl base 45 i0 _ 8 88 Tryz.underlying43 hi0 hz0 hz1 hz2 rfl (by omega) _ _ _ [] rfl HGZ.out [.string y.id,.string y.applicant,.string y.partner,.int .i64 y.low,.int .i64 y.high,.int .i64 y.filed,.int .i64 y.deadline,.int .i64 y.state] (DRequest.tr y) [] rfl 1 rfl (fun x hx=>by simp at hx;rcases hx with rfl|rfl|rfl|rfl|rfl|rfl|rfl|rfl<;>rfl) (zb0 _ [.string y.id,.string y.applicant,.string y.partner,.int .i64 y.low,.int .i64 y.high,.int .i64 y.filed,.int .i64 y.deadline,.int .i64 y.state]) List.nodup_nil (fun b h=>by simp at h) 0 In.nil In.nil (by simp) (by simp) (by unfold maxLen;omega) (by omega) (by omega) ?_;intro v2 wn hgn);have hbn:=hgn.below;have zn:=hgn.size;have HGN:=Lib.hid hgn;clear hgn;go_wp2;go_roundw
      case rel =>
       refine⟨k+1,vs++[y],true,by omega,by go_num,rfl,by have:=HVL.out;simp at this ⊢;omega,fun q hq=>?_,?_,HBZ.out.trans (hbn.mono (by omega)),by omega,?_⟩
       ·simp only[List.mem_append,List.mem_singleton] at hq
        rcases hq with hq|rfl
        ·exact HSM.out q hq
        ·exact HY.out
       ·intro _;exact List.mem_append_left _ (HIN.out rfl)
       ·have hg:=HGN.out.grow
        have e1:vs.length+1=(vs++[y]).length:=by simp
        have e2:vs.flatMap DRequest.tr++DRequest.tr y=(vs++[y]).flatMap DRequest.tr:=by simp
        rw[e2] at hg;rw[← e1];exact hg
      case measure=>simp[intOf];omega
     | false =>
      cases hq:Op.bytesLess y.id.toList x.id.toList with
      | true =>
       go_upto_region 14 with (fail);refine zac wr.heap.size wr (Below.refl _ _) (by kernel_rfl) (by kernel_rfl) ?_
       repeat (go_big_quiet_step (fail))
       refine wpQuiet_nil ?_;rintro _ ⟨X,rfl⟩;have hX:=zad wr.heap.size wr X;clear oB oX;generalize over wr.heap.size wr X=wz at *;have zz:=hX.size;have HGZ:=Lib.hid (HG.out.below (lo:=0) In.nil hX);have HBZ:=Lib.hid (HB.out.trans (hX.mono (by omega)));have kxz:=bkB KX.out hX yx;clear x0;have d0:=(bat hX b _ yb).trans HC.out.1;have d1:=(bat hX b _ yb).trans HC.out.2.1;have d2:=(bat hX b _ yb).trans HC.out.2.2.1;have d3:=(bat hX b _ yb).trans HC.out.2.2.2.1;have d4:=(bat hX b _ yb).trans HC.out.2.2.2.2.1;have d5:=(bat hX b _ yb).trans HC.out.2.2.2.2.2.1;have d6:=(bat hX b _ yb).trans HC.out.2.2.2.2.2.2.1;have d7:=(bat hX b _ yb).trans HC.out.2.2.2.2.2.2.2;clear hX hq kxz;go_upto_region 17 with (fail);go_wp2_with (at_builtin;refine zat rfl (.tmp 50) (.tmp 55) _ rfl base 45 i0 _ 8 88 Tryz.underlying43 hi0 hz0 hz1 hz2 rfl (by omega) _ _ _ [] rfl HGZ.out [.string y.id,.string y.applicant,.string y.partner,.int .i64 y.low,.int .i64 y.high,.int .i64 y.filed,.int .i64 y.deadline,.int .i64 y.state] (DRequest.tr y) [] rfl 1 rfl (fun x hx=>by simp at hx;rcases hx with rfl|rfl|rfl|rfl|rfl|rfl|rfl|rfl<;>rfl) (zb0 _ [.string y.id,.string y.applicant,.string y.partner,.int .i64 y.low,.int .i64 y.high,.int .i64 y.filed,.int .i64 y.deadline,.int .i64 y.state]) List.nodup_nil (fun b h=>by simp at h) 0 In.nil In.nil (by simp) (by simp) (by unfold maxLen;omega) (by omega) (by omega) ?_;intro v2 wn hgn);have hbn:=hgn.below;have zn:=hgn.size;have HGN:=Lib.hid hgn;clear hgn;go_wp2;go_roundw
       case rel =>
        refine⟨k+1,vs++[y],false,by omega,by go_num,rfl,by have:=HVL.out;simp at this ⊢;omega,fun q hq=>?_,?_,HBZ.out.trans (hbn.mono (by omega)),by omega,?_⟩
        ·simp only[List.mem_append,List.mem_singleton] at hq
         rcases hq with hq|rfl
         ·exact HSM.out q hq
         ·exact HY.out
        ·intro h;cases h
        ·have hg:=HGN.out.grow
         have e1:vs.length+1=(vs++[y]).length:=by simp
         have e2:vs.flatMap DRequest.tr++DRequest.tr y=(vs++[y]).flatMap DRequest.tr:=by simp
         rw[e2] at hg;rw[← e1];exact hg
       case measure=>simp[intOf];omega
      | false =>
       cases hq2:(y.id.toList == x.id.toList) with
       | true =>
        go_upto_region 14 with (fail);refine zac wr.heap.size wr (Below.refl _ _) (by kernel_rfl) (by kernel_rfl) ?_
        repeat (go_big_quiet_step (fail))
        refine wpQuiet_nil ?_;rintro _ ⟨X,rfl⟩;have hX:=zad wr.heap.size wr X;clear oB oX;generalize over wr.heap.size wr X=wz at *;have zz:=hX.size;have HGZ:=Lib.hid (HG.out.below (lo:=0) In.nil hX);have HBZ:=Lib.hid (HB.out.trans (hX.mono (by omega)));have kxz:=bkB KX.out hX yx;clear x0;have d0:=(bat hX b _ yb).trans HC.out.1;have d1:=(bat hX b _ yb).trans HC.out.2.1;have d2:=(bat hX b _ yb).trans HC.out.2.2.1;have d3:=(bat hX b _ yb).trans HC.out.2.2.2.1;have d4:=(bat hX b _ yb).trans HC.out.2.2.2.2.1;have d5:=(bat hX b _ yb).trans HC.out.2.2.2.2.2.1;have d6:=(bat hX b _ yb).trans HC.out.2.2.2.2.2.2.1;have d7:=(bat hX b _ yb).trans HC.out.2.2.2.2.2.2.2;clear hX hq hq2 kxz;go_upto_region 17 with (fail);go_wp2_with (at_builtin;refine zat rfl (.tmp 50) (.tmp 55) _ rfl base 45 i0 _ 8 88 Tryz.underlying43 hi0 hz0 hz1 hz2 rfl (by omega) _ _ _ [] rfl HGZ.out [.string y.id,.string y.applicant,.string y.partner,.int .i64 y.low,.int .i64 y.high,.int .i64 y.filed,.int .i64 y.deadline,.int .i64 y.state] (DRequest.tr y) [] rfl 1 rfl (fun x hx=>by simp at hx;rcases hx with rfl|rfl|rfl|rfl|rfl|rfl|rfl|rfl<;>rfl) (zb0 _ [.string y.id,.string y.applicant,.string y.partner,.int .i64 y.low,.int .i64 y.high,.int .i64 y.filed,.int .i64 y.deadline,.int .i64 y.state]) List.nodup_nil (fun b h=>by simp at h) 0 In.nil In.nil (by simp) (by simp) (by unfold maxLen;omega) (by omega) (by omega) ?_;intro v2 wn hgn);have hbn:=hgn.below;have zn:=hgn.size;have HGN:=Lib.hid hgn;clear hgn;go_wp2;go_roundw
        case rel =>
         refine⟨k+1,vs++[y],false,by omega,by go_num,rfl,by have:=HVL.out;simp at this ⊢;omega,fun q hq=>?_,?_,HBZ.out.trans (hbn.mono (by omega)),by omega,?_⟩
         ·simp only[List.mem_append,List.mem_singleton] at hq
          rcases hq with hq|rfl
          ·exact HSM.out q hq
          ·exact HY.out
         ·intro h;cases h
         ·have hg:=HGN.out.grow
          have e1:vs.length+1=(vs++[y]).length:=by simp
          have e2:vs.flatMap DRequest.tr++DRequest.tr y=(vs++[y]).flatMap DRequest.tr:=by simp
          rw[e2] at hg;rw[← e1];exact hg
        case measure=>simp[intOf];omega
       | false =>
        go_upto_region 14 with (fail);refine zac wr.heap.size wr (Below.refl _ _) (by kernel_rfl) (by kernel_rfl) ?_
        repeat (go_big_quiet_step (fail))
        refine wpQuiet_nil ?_;rintro _ ⟨X,rfl⟩;have hX:=zad wr.heap.size wr X;clear oB oX;generalize over wr.heap.size wr X=wz at *;have zz:=hX.size;have HGZ:=Lib.hid (HG.out.below (lo:=0) In.nil hX);have HBZ:=Lib.hid (HB.out.trans (hX.mono (by omega)));have kxz:=bkB KX.out hX yx;clear x0;have d0:=(bat hX b _ yb).trans HC.out.1;have d1:=(bat hX b _ yb).trans HC.out.2.1;have d2:=(bat hX b _ yb).trans HC.out.2.2.1;have d3:=(bat hX b _ yb).trans HC.out.2.2.2.1;have d4:=(bat hX b _ yb).trans HC.out.2.2.2.2.1;have d5:=(bat hX b _ yb).trans HC.out.2.2.2.2.2.1;have d6:=(bat hX b _ yb).trans HC.out.2.2.2.2.2.2.1;have d7:=(bat hX b _ yb).trans HC.out.2.2.2.2.2.2.2;clear hX hq hq2;have HD:=Lib.hid (And.intro d0 (And.intro d1 (And.intro d2 (And.intro d3 (And.intro d4 (And.intro d5 (And.intro d6 d7)))))));clear d0 d1 d2 d3 d4 d5 d6 d7;have x0:=bkC kxz 0 rfl;have x1:=bkC kxz 1 rfl;have x2:=bkC kxz 2 rfl;have x3:=bkC kxz 3 rfl;have x4:=bkC kxz 4 rfl;have x5:=bkC kxz 5 rfl;have x6:=bkC kxz 6 rfl;have x7:=bkC kxz 7 rfl;clear kxz;go_upto_region 15 with (fail);go_upto_region 16 with (at_builtin;refine zat rfl (.tmp 46) (.tmp 48) _ rfl base 45 i0 _ 8 88 Tryz.underlying43 hi0 hz0 hz1 hz2 rfl (by omega) _ _ _ [] rfl HGZ.out [.string x.id,.string x.applicant,.string x.partner,.int .i64 x.low,.int .i64 x.high,.int .i64 x.filed,.int .i64 x.deadline,.int .i64 x.state] (DRequest.tr x) [] rfl 1 rfl (fun x hx=>by simp at hx;rcases hx with rfl|rfl|rfl|rfl|rfl|rfl|rfl|rfl<;>rfl) (zb0 _ [.string x.id,.string x.applicant,.string x.partner,.int .i64 x.low,.int .i64 x.high,.int .i64 x.filed,.int .i64 x.deadline,.int .i64 x.state]) List.nodup_nil (fun b h=>by simp at h) 0 In.nil In.nil (by simp) (by simp) (by unfold maxLen;omega) (by omega) (by omega) ?_;intro v2 wn hgn);have hb2:=hgn.below;have zn2:=hgn.size;have HG2:=Lib.hid hgn.grow;have HB2:=Lib.hid (HBZ.out.trans (hb2.mono (by omega)));have d0:=(bat hb2 b _ (by omega)).trans HD.out.1;have d1:=(bat hb2 b _ (by omega)).trans HD.out.2.1;have d2:=(bat hb2 b _ (by omega)).trans HD.out.2.2.1;have d3:=(bat hb2 b _ (by omega)).trans HD.out.2.2.2.1;have d4:=(bat hb2 b _ (by omega)).trans HD.out.2.2.2.2.1;have d5:=(bat hb2 b _ (by omega)).trans HD.out.2.2.2.2.2.1;have d6:=(bat hb2 b _ (by omega)).trans HD.out.2.2.2.2.2.2.1;have d7:=(bat hb2 b _ (by omega)).trans HD.out.2.2.2.2.2.2.2;clear hgn hb2 x0 x1 x2 x3 x4 x5 x6 x7;go_upto_region 17 with (fail);go_wp2_with (at_builtin;refine zat rfl (.tmp 50) (.tmp 55) _ rfl base 45 i0 _ 8 88 Tryz.underlying43 hi0 hz0 hz1 hz2 rfl (by omega) _ _ _ [] rfl HG2.out [.string y.id,.string y.applicant,.string y.partner,.int .i64 y.low,.int .i64 y.high,.int .i64 y.filed,.int .i64 y.deadline,.int .i64 y.state] (DRequest.tr y) [] rfl 1 rfl (fun x hx=>by simp at hx;rcases hx with rfl|rfl|rfl|rfl|rfl|rfl|rfl|rfl<;>rfl) (zb0 _ [.string y.id,.string y.applicant,.string y.partner,.int .i64 y.low,.int .i64 y.high,.int .i64 y.filed,.int .i64 y.deadline,.int .i64 y.state]) List.nodup_nil (fun b h=>by simp at h) 0 In.nil In.nil (by simp) (by simp) (by unfold maxLen;omega) (by omega) (by omega) ?_;intro v2 wn hgn);have hbn:=hgn.below;have zn:=hgn.size;have HGN:=Lib.hid hgn;clear hgn;go_wp2;go_roundw
        case rel =>
         refine⟨k+1,(vs++[x])++[y],true,by omega,by go_num,rfl,by have:=HVL.out;simp at this ⊢;omega,fun q hq=>?_,?_,HB2.out.trans (hbn.mono (by omega)),by omega,?_⟩
         ·simp only[List.mem_append,List.mem_singleton] at hq
          rcases hq with (hq|rfl)|rfl
          ·exact HSM.out q hq
          ·exact HX.out
          ·exact HY.out
         ·intro _;simp
         ·have hg:=HGN.out.grow
          have e1:vs.length+1+1=((vs++[x])++[y]).length:=by simp
          have e2:(vs.flatMap DRequest.tr++DRequest.tr x)++DRequest.tr y=((vs++[x])++[y]).flatMap DRequest.tr:=by simp
          rw[e2] at hg;rw[← e1];exact hg
        case measure=>simp[intOf];omega
    ·obtain rfl:k=l.length:=by omega
     cases dn with
     | true =>
      obtain⟨av,cv,fv,ev,ov,iv⟩:=HG.out.toOwn (lo:=base) (by omega) In.nil (by omega);subst ev;have HO:=Lib.hid (And.intro ov iv);have HI:=Lib.hid (HIN.out rfl);clear ov iv HG HIN;go_wp2;go_ret2;exact⟨HBW.out,Or.inr ⟨vs,av,cv,fv,rfl,by have:=HVL.out;simp at this;omega,HSM.out,HI.out,HO.out.1,HO.out.2.mono (by omega) (Nat.le_refl _)⟩⟩
     | false =>
      have x0:=bkC hkx 0 rfl;have x1:=bkC hkx 1 rfl;have x2:=bkC hkx 2 rfl;have x3:=bkC hkx 3 rfl;have x4:=bkC hkx 4 rfl;have x5:=bkC hkx 5 rfl;have x6:=bkC hkx 6 rfl;have x7:=bkC hkx 7 rfl;go_wp2_with (at_builtin;refine zat rfl (.tmp 59) (.tmp 61) _ rfl base 45 i0 _ 8 88 Tryz.underlying43 hi0 hz0 hz1 hz2 rfl (by omega) _ _ _ [] rfl HG.out [.string x.id,.string x.applicant,.string x.partner,.int .i64 x.low,.int .i64 x.high,.int .i64 x.filed,.int .i64 x.deadline,.int .i64 x.state] (DRequest.tr x) [] rfl 1 rfl (fun x hx=>by simp at hx;rcases hx with rfl|rfl|rfl|rfl|rfl|rfl|rfl|rfl<;>rfl) (zb0 _ [.string x.id,.string x.applicant,.string x.partner,.int .i64 x.low,.int .i64 x.high,.int .i64 x.filed,.int .i64 x.deadline,.int .i64 x.state]) List.nodup_nil (fun b h=>by simp at h) 0 In.nil In.nil (by simp) (by simp) (by unfold maxLen;omega) (by omega) (by omega) ?_;intro v2 wn hgn);have HGN:=Lib.hid hgn;have hbn:=hgn.below;have zn:=hgn.size;have HB2:=Lib.hid (HBW.out.trans (hbn.mono (by omega)));obtain⟨av,cv,fv,ev,ov,iv⟩:=hgn.grow.toOwn (lo:=base) (by omega) In.nil (by omega);subst ev;have ht:vs.flatMap DRequest.tr++DRequest.tr x=(vs++[x]).flatMap DRequest.tr:=by simp
      rw[ht] at ov;have hln:vs.length+1=(vs++[x]).length:=by simp
      rw[hln] at ov;have HO:=Lib.hid (And.intro ov iv);have HLN:=Lib.hid hln;clear ov iv HG HGN hgn hbn ht hln;go_wp2;go_ret2;refine⟨HB2.out,Or.inr ⟨vs++[x],av,cv,fv,by rw[← HLN.out];rfl,by have:=HVL.out;simp at this ⊢;omega,fun y hy=>?_,by simp,HO.out.1,HO.out.2.mono (by omega) (Nat.le_refl _)⟩⟩
      rcases List.mem_append.1 hy with hy|hy
      ·exact HSM.out y hy
      ·obtain rfl:y=x:=by simpa using hy
       exact HX.out
end Go.Proofs.YtpodllefipleiaaGreatDoor
