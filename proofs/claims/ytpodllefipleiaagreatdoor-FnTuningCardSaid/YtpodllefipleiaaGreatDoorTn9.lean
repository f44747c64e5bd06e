/- Contract: slices.DeleteFunc of samples: what the function keeps. Conditions: a bounded length; what is asked of the function. -/
import Derived.Test.YtpodllefipleiaaGreatDoorTn8
set_option linter.unusedVariables false
set_option linter.unusedSimpArgs false
namespace Go.Proofs.YtpodllefipleiaaGreatDoor
open Go.RowKit
set_option maxHeartbeats 8000000
set_option maxRecDepth 100000
theorem RowV.set1 {w:World} {b off:Nat} {xs:List Value} (h:RowV w b off xs) (j:Nat) (hj:j<xs.length) (u:Value):RowV (w.setCell ⟨b,off+j,none⟩ u) b off (xs.set j u):=by
 refine⟨fun i v hv=>?_,fun i=>by have:=h.free i;simp[go_sem,this]⟩;have he:=h.at_ j hj
 by_cases c:i=j
 ·subst c
  rw[List.getElem?_set_self hj] at hv;obtain rfl:=Option.some.inj hv;simp[go_sem,he]
 ·rw[List.getElem?_set_ne (Ne.symm c)] at hv
  have h2:=h.cell i v hv;have c':¬ (off+i=off+j):=by omega
  simp[go_sem,h2,c']
theorem vs_set (l:List DSample) (k:Nat) (h:k<l.length) (d v:Int):((l.flatMap DSample.vs).set (k*2) (.int .i64 d)).set (k*2+1) (.int .i64 v)=(l.set k ⟨d,v⟩).flatMap DSample.vs:=by
 have hA:((l.take k).flatMap DSample.vs).length=k*2:=by rw[zai DSample.vs 2 DSample.vs_len,List.length_take,Nat.min_eq_left (by omega)]
 rw[flatSplit DSample.vs l k h,flatSet DSample.vs l k h];generalize (l.take k).flatMap DSample.vs=A at *;generalize (l.drop (k+1)).flatMap DSample.vs=C at *;rw[← hA,List.set_append_right _ _ (Nat.le_refl _),Nat.sub_self,List.set_append_right _ _ (by omega),show A.length+1-A.length=1 by omega]
 rfl
theorem RowV.smp {w:World} {b off:Nat} {l:List DSample} (h:RowV w b off (l.flatMap DSample.vs)) (k:Nat) (hk:k<l.length):w.cell? ⟨b,off+k*2,none⟩=some (.int .i64 l[k].distance)∧w.cell? ⟨b,off+k*2+1,none⟩=some (.int .i64 l[k].level):=by
 have hA:((l.take k).flatMap DSample.vs).length=k*2:=by rw[zai DSample.vs 2 DSample.vs_len,List.length_take,Nat.min_eq_left (by omega)]
 rw[flatSplit DSample.vs l k hk] at h;refine⟨h.cell (k*2) _ ?_,h.cell (k*2+1) _ ?_⟩
 ·rw[List.getElem?_append_right (by omega),hA,Nat.sub_self];rfl
 ·rw[List.getElem?_append_right (by omega),hA,show k*2+1-k*2=1 by omega];rfl
theorem RowV.setSmp {w:World} {b off:Nat} {l:List DSample} (h:RowV w b off (l.flatMap DSample.vs)) (k:Nat) (hk:k<l.length) (d v:Int):RowV ((w.setCell ⟨b,off+k*2,none⟩ (.int .i64 d)).setCell ⟨b,off+k*2+1,none⟩ (.int .i64 v)) b off ((l.set k ⟨d,v⟩).flatMap DSample.vs):=by
 have hn:=zai DSample.vs 2 DSample.vs_len l;rw[← vs_set l k hk];exact (h.set1 (k*2) (by omega) _).set1 (k*2+1) (by rw[List.length_set];omega) _
theorem zeroCells_smp (n:Nat):(Builtin.zeroCells #[Value.int .i64 0,Value.int .i64 0] n).toList=List.replicate (n*2) (.int .i64 0):=by
 unfold Builtin.zeroCells
 apply List.ext_getElem
 ·simp
 ·intro i h1 h2
  simp only[Array.toList_map,List.getElem_map,List.getElem_replicate];have:∀ m,m<2→(#[Value.int .i64 0,Value.int .i64 0]:Array Value)[m]! = .int .i64 0:=by
   intro m hm;obtain rfl|rfl:m=0∨m=1:=by omega
   ·rfl
   ·rfl
  exact this _ (Nat.mod_lt _ (by decide))
theorem run_clear_smp {P:Program} (w:World) (t e ty:TypeId) (ht:P.underlying t=some (.slice e)) (hv:∀ w,(zeroValue e).run P w=.ok (.agg #[.int .i64 0,.int .i64 0]) w) (b o n c:Nat) (hn:0<n)
  (hc:∀ j,j<n*2→(w.cell? ⟨b,o+j,none⟩).isSome=true) (hf:∀ j,j<n*2→w.frozen? ⟨b,o+j,none⟩=false) :
  (Builtin.clear_ #[t] ty #[.slice (some ⟨b,o,none⟩) n c]).run P w=.ok (.tuple #[]) (w.setCells b o (List.replicate (n*2) (.int .i64 0))):=by
 have hz:(Builtin.zeroCells (Value.agg #[Value.int .i64 0,Value.int .i64 0]).cells n).toList=List.replicate (n*2) (.int .i64 0):=zeroCells_smp n;have hst:=run_storeCells_cells (P:=P) b o (List.replicate (n*2) (Value.int .i64 0)) 0 w (by simpa using hc) (by simpa using hf) (by intro v hv';rw[List.eq_of_mem_replicate hv'];rfl);simp only[Nat.add_zero] at hst;obtain⟨m,rfl⟩:∃ m,n=m+1:=⟨n-1,by omega⟩
 simp[Builtin.clear_,run_underlying ht,hv,hz,hst]
theorem filt_take (p:DSample→Bool) (l cur:List DSample) (i j:Nat) (hij:i<j) (hj:j<l.length) (hc:cur.length=l.length) (h1:cur.take i=(l.take j).filter p) (h2:cur.drop j=l.drop j) :
  cur[j]'(by omega)=l[j]∧(p l[j]=true→(cur.set i l[j]).take (i+1)=(l.take (j+1)).filter p∧(cur.set i l[j]).drop (j+1)=l.drop (j+1))∧(p l[j]=false→cur.take i=(l.take (j+1)).filter p∧cur.drop (j+1)=l.drop (j+1)):=by
 have e:cur[j]'(by omega)=l[j]:=by
  have a:=List.getElem?_drop (xs:=cur) (i:=j) (j:=0);have c:=List.getElem?_drop (xs:=l) (i:=j) (j:=0);rw[h2,c] at a;simp only[Nat.add_zero] at a;rw[List.getElem?_eq_getElem hj,List.getElem?_eq_getElem (show j<cur.length by omega)] at a;exact (Option.some.inj a).symm
 have hd:cur.drop (j+1)=l.drop (j+1):=by
  have:=congrArg (List.drop 1) h2;rw[List.drop_drop,List.drop_drop] at this;exact this
 refine⟨e,fun hp=>⟨?_,?_⟩,fun hp=>⟨?_,hd⟩⟩
 ·rw[List.take_succ_eq_append_getElem hj,List.filter_append,← h1]
  rw[List.take_succ_eq_append_getElem (show i<(cur.set i l[j]).length by rw[List.length_set];omega),List.getElem_set_self,List.take_set_of_le (Nat.le_refl _)];simp[hp]
 ·rw[List.drop_set_of_lt (by omega)];exact hd
 ·rw[List.take_succ_eq_append_getElem hj,List.filter_append,← h1]
  simp[hp]
theorem deleteFuncSample_any (l:List DSample) (p:DSample→Bool) (fn:FuncId) (cap:List Value) (a:Option Addr) (c lo:Nat) (fp:List Nat) (w:World) (h:Own w (DSample.sT l) (.slice a l.length c) fp) (hi:In lo w.heap.size fp) (hlo:lo≤w.heap.size) (hn:l.length≤1048576)
  (hcf:∀ (args:Array Value) (W:World),(callFunc fn args).run Tryz.prog W=.ok (.enter fn args) W)
  (hf:∀ x ∈ l,∀ W:World,Below lo w W→Calls Tryz.prog fn (Value.agg #[.int .i64 x.distance,.int .i64 x.level]::cap).toArray W fun e W'=>e=.returned (.bool (p x))∧Below W.heap.size W W') :
  Calls Tryz.prog 37 #[.slice a l.length c,.func (.func fn) #[] cap.toArray] w fun e w'=>∃ fp',e=.returned (.slice a (l.filter fun x=>!p x).length c)∧Below lo w w'∧Own w' (DSample.sT (l.filter fun x=>!p x)) (.slice a (l.filter fun x=>!p x).length c) fp'∧In lo w'.heap.size fp':=by
 have HIX:=Lib.hid (zba l p fn cap (.slice a l.length c) w.heap.size w (h.rd hi) (Nat.le_refl _) (by omega) hcf (fun x hx W hW=>hf x hx W (hW.mono hlo)));have HF:=Lib.hid hf;have HO:=Lib.hid h;have HI:=Lib.hid hi;clear h hi hf
 by_cases hany:l.any p=true
 case neg =>
  have hany':l.any p=false:=Bool.eq_false_iff.2 hany;rw[firstIdx_none p l hany'] at HIX;have HFI:Hid ((l.filter fun x=>!p x)=l):=by
   show _=_
   rw[List.filter_eq_self];intro x hx;rw[List.any_eq_false] at hany'
   simpa using hany' x hx
  rw[HFI.out];clear hany hany';go_enter Tryz.func37,Tryz.ntmps37;go_wp2_with (fail)
  go_at_call 79
  refine HIX.out.mono ?_;rintro e w1 ⟨rfl,b1⟩;have HB1:=Lib.hid b1;clear b1;go_wp2;go_ret;exact⟨fp,rfl,HB1.out.mono hlo,HO.out.below HI.out (Nat.le_refl _) HB1.out,HI.out.mono (Nat.le_refl _) HB1.out.size⟩
 obtain⟨k0,h0,hp0,hb0⟩:∃ k,∃ h:k<l.length,p l[k]=true∧(l.take k).any p=false:=by
  have hex:∃ x ∈ l,p x=true:=by simpa using hany
  refine⟨l.findIdx p,List.findIdx_lt_length_of_exists hex,List.findIdx_getElem,?_⟩;rw[List.any_eq_false];intro x hx;obtain⟨i,hi,rfl⟩:=List.getElem_of_mem hx;rw[List.length_take] at hi;rw[List.getElem_take];have:=List.not_of_lt_findIdx (show i<l.findIdx p by omega)
  simpa using this
 rw[firstIdx_at p l k0 h0 hp0 hb0] at HIX;have HST:Hid (l.take k0=(l.take (k0+1)).filter fun x=>!p x):=by
  show _=_
  rw[List.take_succ_eq_append_getElem h0,List.filter_append];have h1:(l.take k0).filter (fun x=>!p x)=l.take k0:=by
   rw[List.filter_eq_self];intro x hx;rw[List.any_eq_false] at hb0
   simpa using hb0 x hx
  rw[h1];simp[hp0]
 have hO:=HO.out;rw[DSample.sT_vs] at hO;obtain⟨_,hnc,hcm,hrow⟩:=hO.rowV;have hlen:=zai DSample.vs 2 DSample.vs_len l;obtain⟨b,off,rfl,rfl,hrv⟩:=hrow (fun e=>by rw[e] at hlen;simp at hlen;omega);have bl0:=(HI.out b (by simp)).1;have bl1:=(HI.out b (by simp)).2;have HR0:=Lib.hid hrv;have k0i:(k0:Int)+1≤(l.length:Int):=by omega
 have ek:((k0:Int) == -1)=false:=by rw[beq_eq_false_iff_ne];omega
 have nci:(l.length:Int)≤(c:Int):=by omega
 clear hO hrow hrv hany hb0 hp0 HO HI hlen;go_enter Tryz.func37,Tryz.ntmps37;go_wp2_with (fail)
 go_at_call 79
 refine HIX.out.mono ?_;rintro e w1 ⟨rfl,b1⟩;have z1:=b1.size;have HB1:=Lib.hid (b1.mono hlo);have HR1:=Lib.hid (HR0.out.frame (b1.block b bl1));clear b1 HR0 HIX;go_wp2;go_loopw [5,6] (fun i j wr=>∃ (ii jj:Nat) (cur:List DSample),i=.int .i64 ii∧j=.int .i64 jj∧ii<jj∧jj≤l.length∧cur.length=l.length∧cur.take ii=(l.take jj).filter (fun x=>!p x)∧cur.drop jj=l.drop jj∧RowV wr b off (cur.flatMap DSample.vs)∧Below lo w wr∧w1.heap.size≤wr.heap.size) (fun i j wr=>l.length-(intOf j).toNat)
 case atStart=>exact⟨k0,k0+1,l,rfl,rfl,by omega,by omega,rfl,HST.out,rfl,HR1.out,HB1.out,Nat.le_refl _⟩
 case round =>
  obtain⟨ii,jj,cur,rfl,rfl,hij,hjn,hcl,hct,hcd,hrv,hbw,hsz⟩:=hrel;have HR:=Lib.hid hrv;have HB:=Lib.hid hbw;have HT:=Lib.hid hct;have HD:=Lib.hid hcd;have HCL:=Lib.hid hcl;clear hrv hbw
  by_cases hlt:jj<l.length
  ·obtain⟨hg,hst1,hst0⟩:=filt_take (fun x=>!p x) l cur ii jj hij hlt hcl hct hcd
   obtain⟨s0,s1⟩:=HR.out.smp jj (by omega);rw[hg] at s0 s1;have HS1:=Lib.hid hst1;have HS0:=Lib.hid hst0;have HM:=Lib.hid (List.getElem_mem hlt);clear hst1 hst0 hct hcd hg;generalize hxe:l[jj]=x at *;clear hxe;have yb:b<wr.heap.size:=by omega
   have jji:(jj:Int)<(l.length:Int):=by omega
   have iij:(ii:Int)<(jj:Int):=by omega
   go_upto_region 8 with (fail);obtain⟨W3,hW3,b3,z3,k3⟩:=zbi wr #[.int .i64 x.distance,.int .i64 x.level] 41;rw[hW3];clear hW3;have r0:=bkC (v:=.int .i64 x.distance) k3 0 rfl;have r1:=bkC (v:=.int .i64 x.level) k3 1 rfl;have K3:=Lib.hid k3;have HB3:=Lib.hid (HB.out.trans (b3.mono (by omega)));have HR3:=Lib.hid (HR.out.frame (b3.block b yb));clear b3 k3 s0 s1;go_wp2_with fail;refine (HF.out x HM.out _ HB3.out).mono ?_;rintro e w4 ⟨rfl,b4⟩;have z4:=b4.size;have k4:=bkB K3.out b4 (by omega);have HB4:=Lib.hid (HB3.out.trans (b4.mono (by omega)));have hR4:=HR3.out.frame (b4.block b (by omega));have q0:=bkC (v:=.int .i64 x.distance) k4 0 rfl;have q1:=bkC (v:=.int .i64 x.level) k4 1 rfl;obtain⟨t0,t1⟩:=hR4.smp ii (by omega);have f0:=hR4.free (off+ii*2);have f1:=hR4.free (off+ii*2+1);have HR4:=Lib.hid hR4;clear b4 k4 K3 HB3 HR3 r0 r1 hR4
   cases hp:p x with
   | true =>
    have hs:=HS0.out (by simp[hp]);have HSS:=Lib.hid hs;clear hs hp;go_wp2;go_roundw
    case rel=>exact⟨ii,jj+1,cur,rfl,by go_num,by omega,by omega,HCL.out,HSS.out.1,HSS.out.2,HR4.out,HB4.out,by omega⟩
    case measure=>simp[intOf];omega
   | false =>
    have hs:=HS1.out (by simp[hp]);have HSS:=Lib.hid hs;clear hs hp;go_wp2;go_roundw
    case rel =>
     refine⟨ii+1,jj+1,cur.set ii x,by go_num,by go_num,by omega,by omega,by rw[List.length_set];exact HCL.out,HSS.out.1,HSS.out.2,?_,?_,?_⟩
     ·exact HR4.out.setSmp ii (by omega) x.distance x.level
     ·exact (HB4.out.setCell (p:=⟨b,off+ii*2,none⟩) bl0 _).setCell (p:=⟨b,off+ii*2+1,none⟩) bl0 _
     ·simp only[zak];omega
    case measure=>simp[intOf];omega
  ·obtain rfl:jj=l.length:=by omega
   rw[List.take_length] at hct;have hfl:(l.filter fun x=>!p x).length=ii:=by rw[← hct,List.length_take];omega
   have hcc:∀ ty:TypeId,(Builtin.clear_ #[24] ty #[.slice (some ⟨b,off+ii*2,none⟩) (l.length-ii) (c-ii)]).run Tryz.prog wr=.ok (.tuple #[]) (wr.setCells b (off+ii*2) (List.replicate ((l.length-ii)*2) (.int .i64 0))):=fun ty =>
    run_clear_smp wr 24 41 ty Tryz.underlying24 (fun _=>by kernel_rfl) b _ _ _ (by omega)
     (fun j hj=>by rw[Nat.add_assoc];exact HR.out.some_ _ (by rw[zai DSample.vs 2 DSample.vs_len];omega)) (fun j hj=>HR.out.free _)
   have hrow:RowV (wr.setCells b (off+ii*2) (List.replicate ((l.length-ii)*2) (.int .i64 0))) b off ((l.filter fun x=>!p x).flatMap DSample.vs):=by
    have h2:=(HR.out.take (ii*2))
    rw[← flatv_take DSample.vs 2 DSample.vs_len,hct] at h2;exact h2.behind (ii*2) (by rw[zai DSample.vs 2 DSample.vs_len,hfl];omega)
   obtain⟨fp',ho,hf'⟩:=hrow.own (k:=2) (n:=ii) (c:=c) (by rw[zai DSample.vs 2 DSample.vs_len,hfl]) (by omega) hcm;have HOO:Hid (Own (wr.setCells b (off+ii*2) (List.replicate ((l.length-ii)*2) (.int .i64 0))) (DSample.sT (l.filter fun x=>!p x)) (.slice (some ⟨b,off,none⟩) ii c) fp'∧∀ y ∈ fp',y=b):=⟨by rw[DSample.sT_vs];exact ho,hf'⟩
   have HFL:=Lib.hid hfl;have ici:(ii:Int)<(l.length:Int):=by omega
   have hbY:Hid (Below lo w (wr.setCells b (off+ii*2) (List.replicate ((l.length-ii)*2) (.int .i64 0)))∧(wr.setCells b (off+ii*2) (List.replicate ((l.length-ii)*2) (Value.int .i64 0))).heap.size=wr.heap.size):=⟨HB.out.trans ((chg_setCellsV (Chg.refl [b] wr) (by simp) _ _).below (by omega) (fun x hx=>by simp at hx;omega)),size_setCellsV _ _ _ _⟩
   clear hfl hct hcd hcl hrow ho hf' HT HD HST HF HR;generalize hY:wr.setCells b (off+ii*2) (List.replicate ((l.length-ii)*2) (.int .i64 0))=Y at *;have HY:=Lib.hid hY;clear hY;go_wp2;go_ret;rw[HFL.out];exact⟨fp',rfl,hbY.out.1,HOO.out.1,fun y hy=>by rw[HOO.out.2 y hy];exact⟨bl0,by have:=hbY.out.2;omega⟩⟩
end Go.Proofs.YtpodllefipleiaaGreatDoor
