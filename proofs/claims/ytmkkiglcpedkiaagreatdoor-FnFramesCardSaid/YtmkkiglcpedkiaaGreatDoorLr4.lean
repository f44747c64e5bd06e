/- Contracts: the change of a line, for the program. Conditions: bounded sizes; the library's own variables hold what they hold at the start. -/
import Derived.Test.YtmkkiglcpedkiaaGreatDoorLr3
set_option linter.unusedVariables false
set_option linter.unusedSimpArgs false
namespace Go.Proofs.YtmkkiglcpedkiaaGreatDoor
open Go.RowKit
set_option maxHeartbeats 8000000
set_option maxRecDepth 100000
theorem chgR_none {line:List UInt8} (h:lastCut 32 line=none):chgR line=(zChg,10):=by unfold chgR;rw[h]
theorem chgR_sum {line body sum:List UInt8} (h:lastCut 32 line=some (body,sum)) (hs:sum≠Go.Lib.itoa (crcL body 65535)):chgR line=(zChg,10):=by unfold chgR;rw[h];exact if_neg hs
theorem chgR_len {line body sum:List UInt8} (h:lastCut 32 line=some (body,sum)) (hs:sum=Go.Lib.itoa (crcL body 65535)) (hl:(splitN 32 4 body).length≠5):chgR line=(zChg,9):=by
 unfold chgR;rw[h];refine (if_pos hs).trans ?_
 split
 ·rename_i p0 p1 p2 p3 t e;rw[e] at hl;exact absurd rfl hl
 ·rfl
theorem chgR_five {line body sum p0 p1 p2 p3 t:List UInt8} (h:lastCut 32 line=some (body,sum)) (hs:sum=Go.Lib.itoa (crcL body 65535)) (hp:splitN 32 4 body = [p0,p1,p2,p3,t]):chgR line=match num p0,num p2,num p3 with
    | some d,some n,some m=>if 0≤n∧n+m=(t.length:Int)∧n≤(t.length:Int)∧changeB (chgOf d p1 t n.toNat)=true then (chgOf d p1 t n.toNat,0) else (zChg,9)
    | _,_,_=>(zChg,9):=by
 unfold chgR;rw[h];refine (if_pos hs).trans ?_;rw[hp]
 rfl
theorem chgR_day {line body sum p0 p1 p2 p3 t:List UInt8} (h:lastCut 32 line=some (body,sum)) (hs:sum=Go.Lib.itoa (crcL body 65535)) (hp:splitN 32 4 body = [p0,p1,p2,p3,t]) (h0:num p0=none):chgR line=(zChg,9):=by rw[chgR_five h hs hp,h0]
theorem chgR_n {line body sum p0 p1 p2 p3 t:List UInt8} (h:lastCut 32 line=some (body,sum)) (hs:sum=Go.Lib.itoa (crcL body 65535)) (hp:splitN 32 4 body = [p0,p1,p2,p3,t]) (h2:num p2=none):chgR line=(zChg,9):=by
 rw[chgR_five h hs hp,h2]
 cases num p0<;>rfl
theorem chgR_out {line body sum p0 p1 p2 p3 t:List UInt8} {n:Int} (h:lastCut 32 line=some (body,sum)) (hs:sum=Go.Lib.itoa (crcL body 65535)) (hp:splitN 32 4 body = [p0,p1,p2,p3,t]) (h2:num p2=some n) (hn:¬ (0≤n∧n≤(t.length:Int))):chgR line=(zChg,9):=by
 rw[chgR_five h hs hp,h2]
 cases num p0 with
 | none=>rfl
 | some d=>cases num p3 with
  | none=>rfl
  | some m=>exact if_neg fun e=>hn ⟨e.1,e.2.2.1⟩
theorem chgR_in {line body p0 p1 p2 p3 t:List UInt8} {d:Int} {k:Nat} (h:lastCut 32 line=some (body,Go.Lib.itoa (crcL body 65535))) (hp:splitN 32 4 body = [p0,p1,p2,p3,t]) (h0:num p0=some d) (h2:num p2=some (k:Int)) (hk:k≤t.length) (hl:t.length≤1048576):chgR line=if changeB (chgOf d p1 t k)=true∧lineL (chgOf d p1 t k)=line then (chgOf d p1 t k,0) else (zChg,9):=by
 have hi:=line_iff (n:=(k:Int)) h hp h0 h2 (by omega) (by omega) hl;rw[Int.toNat_natCast] at hi;rw[chgR_five h rfl hp,h0,h2]
 cases h3:num p3 with
 | none =>
  rw[h3] at hi;exact (if_neg fun e=>by have:=hi.1 e.2;cases this).symm
 | some m =>
  rw[h3] at hi;simp only[Int.toNat_natCast]
  by_cases hc:changeB (chgOf d p1 t k)=true∧lineL (chgOf d p1 t k)=line
  ·rw[if_pos hc]
   have:=Option.some.inj (hi.1 hc.2);exact if_pos ⟨by omega,by omega,by omega,hc.1⟩
  ·rw[if_neg hc]
   refine if_neg fun e=>hc ⟨e.2.2.2,hi.2 ?_⟩
   rw[show m=(t.length:Int)-k by omega]
def chgV (x:DChange):Value:=.agg #[.int .i64 x.day,.string x.key,.string x.old_,.string x.new_]
def wordsM (c:UInt8) (s:ByteArray):List ByteArray:=(splitN c 4 (bl s)).map ofL
theorem iSplitM_any (s:ByteArray) (c:UInt8) (hs:s.size≤1048576) (w:World) (L:LibW w) :
  Calls Tryz.prog 42 #[.string s,.string ⟨#[c]⟩,.int .i64 5] w fun e w'=>∃ a cc,e=.returned (.slice a (wordsM c s).length cc)∧Below w.heap.size w w'∧Rd w'.heap.size w' (strsT (wordsM c s)) (.slice a (wordsM c s).length cc)∧(wordsM c s).length≤5:=by
 obtain⟨m,hm⟩:=L.m;refine (Tryz.strings_SplitN s ⟨#[c]⟩ 5 m w (by omega) hm (Nat.le_refl 1) (by omega) (by omega)).mono fun e w' ⟨he,hw⟩=>?_
 have hk:splitN c (min 5 (s.size+1)-1) (bl s)=splitN c 4 (bl s):=by
  have:=splitN_min c 4 (bl s);rw[bl_len] at this;exact this
 have hwd:Go.Lib.splitB ⟨#[c]⟩ 0 (min 5 (s.size+1)-1) s=wordsM c s:=by rw[splitB_words,hk];rfl
 have hle:=Go.Lib.splitB_length_le ⟨#[c]⟩ 0 (min 5 (s.size+1)-1) s;rw[hwd] at he hle;subst hw;rw[hwd];refine⟨_,_,he,(Below.refl _ _).alloc (Nat.le_refl _) _,?_,by omega⟩
 have:=rd_fresh w 9 (Go.Lib.cellsOf (wordsM c s) (min 5 (s.size+1))) (wordsM c s) (min 5 (s.size+1)) (by omega) (by unfold maxLen;omega) (fun i hi=>by
  unfold Go.Lib.cellsOf
  rw[List.getElem?_toArray,List.getElem?_append_left (by simpa using hi)];simp[hi])
 exact this.mono (by simp)
theorem words_sizeM (c:UInt8) (s p:ByteArray) (h:p ∈ (splitN c 4 (bl s)).map ofL):p.size≤s.size:=by
 obtain⟨q,hq,rfl⟩:=List.mem_map.1 h;have:=splitN_size c (bl s) 4 q hq;rw[bl_len] at this;exact this
theorem readChange_any (s:ByteArray) (hs:s.size≤1048576) (w:World) (L:LibW w):Calls Tryz.prog 19 #[.string s] w fun e w'=>e=.returned (.tuple #[chgV (chgR (bl s)).1,.int .i64 (chgR (bl s)).2])∧Below w.heap.size w w':=by
 obtain⟨W0,hW0,b0,z0,k0⟩:=boxes1 w #[.int .i64 0,.string ⟨#[]⟩,.string ⟨#[]⟩,.string ⟨#[]⟩] 44;have HW0:=Lib.hid hW0;clear hW0;have B0:=Lib.hid b0;clear b0;have K0:=Lib.hid k0;clear k0;have HD:Hid (∀ W:World,Below W0.heap.size W0 W→(W.cell? ⟨w.heap.size,0,none⟩=some (.int .i64 0)∧W.cell? ⟨w.heap.size,1,none⟩=some (.string ⟨#[]⟩)∧W.cell? ⟨w.heap.size,2,none⟩=some (.string ⟨#[]⟩)∧W.cell? ⟨w.heap.size,3,none⟩=some (.string ⟨#[]⟩))):=fun W hW=>⟨bkC (bkB K0.out hW (by omega)) 0 rfl,bkC (bkB K0.out hW (by omega)) 1 rfl,bkC (bkB K0.out hW (by omega)) 2 rfl,bkC (bkB K0.out hW (by omega)) 3 rfl⟩
 have HB:Hid (Below W0.heap.size W0 W0):=Below.refl _ _;have HH:Hid (∀ W:World,Below W0.heap.size W0 W→Below w.heap.size w W):=fun W hW=>B0.out.trans (hW.mono (by omega))
 have hsi:(s.size:Int)≤1048576:=by omega
 have HLW:Hid (∀ W,Below W0.heap.size W0 W→LibW W):=fun W hW=>L.mono (HH.out W hW)
 clear L;have HLI:Hid (∀ W,Calls Tryz.prog 41 #[.string s,.string ⟨#[32]⟩] W fun e w'=>e=.returned (.int .i64 (Go.Lib.lastIndexByte s 32))∧W=w'):=fun W=>(Tryz.strings_LastIndex_one s ⟨#[32]⟩ rfl (by omega) W).mono fun e w' ⟨he,hw⟩=>⟨he,hw.symm⟩
 rcases Go.Lib.lastIndexByte_spec s 32 with ⟨hli,hno⟩|⟨j,hj,hli,hc,hno⟩
 ·have HE:Hid (chgR (bl s)=(zChg,10)):=chgR_none (cut_no fun i hi e=>hno i hi (by
   rw[getElem!_pos s.data i (by simpa using hi)];show (((s.data[i]'(by simpa using hi)).toNat:Nat):Int)=32
   rw[show s.data[i]'(by simpa using hi)=s[i] from rfl,e];rfl))
  rw[hli] at HLI;have gd:decide ((-1:Int)<0)=true:=rfl;clear hli hno;go_enter Tryz.func19,Tryz.ntmps19;go_upto_region 1 with (fail);rw[HW0.out];go_upto_region 2 with (go_at_call 41;with_reducible refine (HLI.out _).mono ?_;rintro e w1 ⟨rfl,rfl⟩);refine wp_region_over W0.heap.size W0 (Below.refl _ _) (by kernel_rfl) (by kernel_rfl) ?_
  repeat (go_big_quiet_step (fail))
  refine wpQuiet_nil ?_;rintro _ ⟨X,rfl⟩;have HBX:=Lib.hid (over_below W0.heap.size W0 X);generalize over W0.heap.size W0 X=w9 at *;obtain⟨t0,t1,t2,t3⟩:=HD.out _ HBX.out;have gz:=bkF (bkB K0.out HBX.out (by omega));have BF:=Lib.hid (HH.out _ HBX.out);go_wp2_with fail;refine bodyPost_ret (v:=.tuple #[.agg #[.int .i64 0,.string ⟨#[]⟩,.string ⟨#[]⟩,.string ⟨#[]⟩],.int .i64 10]) (by simp[results,Tryz.results19,go_sem, *]) rfl ?_;exact⟨by rw[HE.out];rfl,(bset (bset (bset (bset BF.out (by omega) 0 _) (by omega) 1 _) (by omega) 2 _) (by omega) 3 _)⟩
 have hc32:s[j]=32:=by
  rw[getElem!_pos s.data j (by simpa using hj)] at hc;have h2:(s[j]).toNat=32:=by
   have:((s[j].toNat:Nat):Int)=32:=hc;omega
  exact UInt8.toNat_inj.1 h2
 have hct:=cut_at j hj hc32 (fun i hi h e=>hno i h hi (by
  rw[getElem!_pos s.data i (by simpa using hi)];show (((s.data[i]'(by simpa using hi)).toNat:Nat):Int)=32
  rw[show s.data[i]'(by simpa using hi)=s[i] from rfl,e];rfl))
 rw[hli] at HLI;have hb:bl (s.extract 0 j)=(bl s).take j:=by rw[bl_extract s 0 j (by omega),seg_take]
 have hx:bl (s.extract (j+1) s.size)=(bl s).drop (j+1):=by rw[bl_extract s _ _ (Nat.le_refl _),seg_drop _ _ _ (by rw[bl_len];exact Nat.le_refl _)]
 rw[← hb,← hx] at hct;have hz:(s.extract 0 j).size≤1048576:=by rw[ByteArray.size_extract];omega
 have hcI:=crcL_I64 (bl (s.extract 0 j)) 65535 (by constructor<;>omega);have HCR:Hid (∀ W,Calls Tryz.prog 36 #[.string (s.extract 0 j),.int .i64 65535] W fun e w'=>e=.returned (.int .i64 (crcL (bl (s.extract 0 j)) 65535))∧Below W.heap.size W w'):=fun W=>(crc16_any (s.extract 0 j) (by omega) W).mono fun e w' ⟨he,hw⟩=>⟨he,hw ▸ Below.refl _ _⟩
 have HDC:Hid (∀ W,LibW W→Calls Tryz.prog 34 #[.int .i64 (crcL (bl (s.extract 0 j)) 65535)] W fun e w'=>e=.returned (.string (ofL (Go.Lib.itoa (crcL (bl (s.extract 0 j)) 65535))))∧Below W.heap.size W w'):=fun W hW=>decimal_any _ hcI W hW
 have HSP:Hid (∀ W,LibW W→Calls Tryz.prog 42 #[.string (s.extract 0 j),.string ⟨#[32]⟩,.int .i64 5] W fun e w'=>∃ a cc,e=.returned (.slice a (wordsM 32 (s.extract 0 j)).length cc)∧Below W.heap.size W w'∧Rd w'.heap.size w' (strsT (wordsM 32 (s.extract 0 j))) (.slice a (wordsM 32 (s.extract 0 j)).length cc)∧(wordsM 32 (s.extract 0 j)).length≤5):=fun W hW=>iSplitM_any _ 32 hz W hW
 have hss:∀ p ∈ wordsM 32 (s.extract 0 j),p.size≤1048576:=fun p hp=>Nat.le_trans (words_sizeM 32 _ p hp) hz
 have hwl:(wordsM 32 (s.extract 0 j)).length=(splitN 32 4 (bl (s.extract 0 j))).length:=List.length_map _;have hwm:wordsM 32 (s.extract 0 j)=(splitN 32 4 (bl (s.extract 0 j))).map ofL:=rfl;have gd:decide ((j:Int)<0)=false:=decide_eq_false (by omega);have hbi:(j:Int)+1≤(s.size:Int):=by omega
 have hj0:(0:Int)≤(j:Int):=by omega
 have hji:(j:Int)<(s.size:Int):=by omega
 clear hli hno hc hc32 hb hx hcI hz;generalize hbd:bl (s.extract 0 j)=bd at *;generalize hsm:bl (s.extract (j+1) s.size)=sm at *;have hsme:s.extract (j+1) s.size=ofL sm:=by rw[← hsm,ofL_bl]
 by_cases he:sm=Go.Lib.itoa (crcL bd 65535)
 case neg =>
  have HE:Hid (chgR (bl s)=(zChg,10)):=chgR_sum hct he;have hq:((s.extract (j+1) s.size).toList == (ofL (Go.Lib.itoa (crcL bd 65535))).toList)=false:=by
   rw[hsme,toList_ofLL,toList_ofLL,beq_eq_false_iff_ne];exact he
  generalize ofL (Go.Lib.itoa (crcL bd 65535))=tx at *;have hqn:((s.extract (j+1) s.size).toList != tx.toList)=true:=by unfold bne;rw[hq];rfl
  clear hct he hwl hwm hss hsme hsm hbd HSP;generalize crcL bd 65535=c at *;go_enter Tryz.func19,Tryz.ntmps19;go_upto_region 1 with (fail);rw[HW0.out];go_upto_region 2 with (go_at_call 41;with_reducible refine (HLI.out _).mono ?_;rintro e w1 ⟨rfl,rfl⟩);have HLO:Hid (∀ X,LibW (over W0.heap.size W0 X)):=fun X=>HLW.out _ (over_below W0.heap.size W0 X)
  refine wp_region_over W0.heap.size W0 (Below.refl _ _) (by kernel_rfl) (by kernel_rfl) ?_
  repeat (go_big_quiet_step (first|(go_at_call 36;with_reducible exact over_left (Nat.le_refl _) (HCR.out _))|(go_at_call 34;with_reducible exact over_left (Nat.le_refl _) (HDC.out _ (HLO.out _)))))
  refine wpQuiet_nil ?_;rintro _ ⟨X,rfl⟩;have HBX:=Lib.hid (over_below W0.heap.size W0 X);generalize over W0.heap.size W0 X=w9 at *;obtain⟨t0,t1,t2,t3⟩:=HD.out _ HBX.out;have gz:=bkF (bkB K0.out HBX.out (by omega));have BF:=Lib.hid (HH.out _ HBX.out);go_wp2_with fail;refine bodyPost_ret (v:=.tuple #[.agg #[.int .i64 0,.string ⟨#[]⟩,.string ⟨#[]⟩,.string ⟨#[]⟩],.int .i64 10]) (by simp[results,Tryz.results19,go_sem, *]) rfl ?_;exact⟨by rw[HE.out];rfl,(bset (bset (bset (bset BF.out (by omega) 0 _) (by omega) 1 _) (by omega) 2 _) (by omega) 3 _)⟩
 have hq:((s.extract (j+1) s.size).toList == (ofL (Go.Lib.itoa (crcL bd 65535))).toList)=true:=by
  rw[hsme,he];exact beq_iff_eq.2 rfl
 have hcc:lastCut 32 (bl s)=some (bd,Go.Lib.itoa (crcL bd 65535)):=by rw[hct,he]
 have hcr:∀ W,Calls Tryz.prog 36 #[.string (s.extract 0 j),.int .i64 65535] W fun e w'=>e=.returned (.int .i64 (crcL bd 65535))∧Below W.heap.size W w':=HCR.out
 obtain⟨tx,htx⟩:∃ tx,tx=ofL (Go.Lib.itoa (crcL bd 65535)):=⟨_,rfl⟩
 rw[← htx] at hq HDC;have hqn:((s.extract (j+1) s.size).toList != tx.toList)=false:=by unfold bne;rw[hq];rfl
 clear hct he htx hsme hsm hbd hcr;have HCC:=Lib.hid hcc;clear hcc;go_enter Tryz.func19,Tryz.ntmps19;go_upto_region 1 with (fail);rw[HW0.out];go_upto_region 2 with (go_at_call 41;with_reducible refine (HLI.out _).mono ?_;rintro e w1 ⟨rfl,rfl⟩);have HLO:Hid (∀ X,LibW (over W0.heap.size W0 X)):=fun X=>HLW.out _ (over_below W0.heap.size W0 X)
 refine wp_region_over W0.heap.size W0 (Below.refl _ _) (by kernel_rfl) (by kernel_rfl) ?_
 repeat (go_big_quiet_step (first|(go_at_call 36;with_reducible exact over_left (Nat.le_refl _) (HCR.out _))|(go_at_call 34;with_reducible exact over_left (Nat.le_refl _) (HDC.out _ (HLO.out _)))))
 refine wpQuiet_nil ?_;rintro _ ⟨X,rfl⟩;have HBX:=Lib.hid (over_below W0.heap.size W0 X);generalize over W0.heap.size W0 X=w9 at *;clear HLO hq hqn HCR HDC HLI;go_wp2_with (fail);refine (HSP.out _ (HLW.out _ HBX.out)).mono ?_;rintro e w2 ⟨a1,c1,rfl,hb2,hr2,hl5⟩;have HB2:=Lib.hid (HBX.out.trans (hb2.mono HBX.out.size));clear hb2 HSP
 by_cases h2:(splitN 32 4 bd).length=5
 case neg =>
  have HE:Hid (chgR (bl s)=(zChg,9)):=chgR_len HCC.out rfl h2;rw[← hwl] at h2;clear hr2 hwl hwm hss;generalize wordsM 32 (s.extract 0 j)=ws at *;have hq:((ws.length:Int) != 5)=true:=by rw[bne_iff_ne];omega
  have hq2:((ws.length:Int) == 5)=false:=by rw[beq_eq_false_iff_ne];omega
  clear h2;obtain⟨t0,t1,t2,t3⟩:=HD.out _ HB2.out;have gz:=bkF (bkB K0.out HB2.out (by omega));have BF:=Lib.hid (HH.out _ HB2.out);go_wp2_with fail;refine bodyPost_ret (v:=.tuple #[.agg #[.int .i64 0,.string ⟨#[]⟩,.string ⟨#[]⟩,.string ⟨#[]⟩],.int .i64 9]) (by simp[results,Tryz.results19,go_sem, *]) rfl ?_;exact⟨by rw[HE.out];rfl,(bset (bset (bset (bset BF.out (by omega) 0 _) (by omega) 1 _) (by omega) 2 _) (by omega) 3 _)⟩
 obtain⟨p0,p1,p2,p3,t,hab⟩:∃ p0 p1 p2 p3 t,splitN 32 4 bd = [p0,p1,p2,p3,t]:=by
  match h:splitN 32 4 bd,h2 with
  | [p0,p1,p2,p3,t],_=>exact⟨p0,p1,p2,p3,t,rfl⟩
 rw[hab] at hwm;have hwm':wordsM 32 (s.extract 0 j) = [ofL p0,ofL p1,ofL p2,ofL p3,ofL t]:=hwm;rw[hwm'] at hr2 hss;rw[hwm'];have hs0:(ofL p0).size≤1048576:=hss _ (by simp);have hs1:(ofL p1).size≤1048576:=hss _ (by simp);have hs2:(ofL p2).size≤1048576:=hss _ (by simp);have hst:(ofL t).size≤1048576:=hss _ (by simp);obtain⟨_,_,e1,_,_,hcl⟩:=Rd.strs hr2;injection e1 with e1 _ e3;subst e1 e3;obtain⟨b1,off,ea,hbb,hat⟩:=hcl (by simp);subst ea;have x0:=hat 0 (by simp);have x1:=hat 1 (by simp);have x2:=hat 2 (by simp);have x4:=hat 4 (by simp);simp only[List.getElem_cons_zero,List.getElem_cons_succ,Nat.add_zero] at x0 x1 x2 x4;clear hr2 hcl hat hl5 hwl hwm hwm' hss h2;have HAB:=Lib.hid hab;have hts:(ofL t).size=t.length:=rfl;clear hab;have HR0:Hid (∀ W,Below W0.heap.size W0 W→Calls Tryz.prog 43 #[.string (ofL p0)] W fun e w'=>e=.returned (.tuple #[.int .i64 (numV p0),.bool (numB p0)])∧Below W.heap.size W w'):=fun W hW=>by
  have:=readDecimal_any (ofL p0) (by omega) W (HLW.out W hW);rw[bl_ofL] at this;exact this
 have HR2:Hid (∀ W,Below W0.heap.size W0 W→Calls Tryz.prog 43 #[.string (ofL p2)] W fun e w'=>e=.returned (.tuple #[.int .i64 (numV p2),.bool (numB p2)])∧Below W.heap.size W w'):=fun W hW=>by
  have:=readDecimal_any (ofL p2) (by omega) W (HLW.out W hW);rw[bl_ofL] at this;exact this
 have HWI:Hid (∀ (W:World) (n:Int),Calls Tryz.prog 44 #[.int .i64 n,.int .i64 0,.int .i64 ((ofL t).size:Int)] W fun e w'=>e=.returned (.bool (inB n 0 ((ofL t).size:Int)))∧W=w'):=fun W n=>within_any _ _ _ W
 have HN0:Hid (∀ b,numB p0=b→num p0=if b=true then some (numV p0) else none):=fun b h1=>by
  subst h1;unfold numB numV
  cases num p0<;>rfl
 have HN2:Hid (∀ b,numB p2=b→num p2=if b=true then some (numV p2) else none):=fun b h1=>by
  subst h1;unfold numB numV
  cases num p2<;>rfl
 generalize hv0:numV p0=d at *;generalize hv2:numV p2=n at *;have HV0:=Lib.hid hv0;have HV2:=Lib.hid hv2;clear hv0 hv2;generalize ofL p0=s0 at *;generalize ofL p2=s2 at *;have HOT:Hid (bl (ofL t)=t):=bl_ofL t;have HO1:Hid (bl (ofL p1)=p1):=bl_ofL p1;have HTS:=Lib.hid hts;clear hts;generalize ofL t=tt at *;generalize ofL p1=s1 at *;have z2:=HB2.out.size;go_wp2_with (fail);refine (HR0.out _ HB2.out).mono ?_;rintro e w3 ⟨rfl,hb3⟩;have y1:=(bat hb3 b1 _ hbb).trans x1;have y2:=(bat hb3 b1 _ hbb).trans x2;have y4:=(bat hb3 b1 _ hbb).trans x4;have HB3:=Lib.hid (HB2.out.trans (hb3.mono HB2.out.size));have z3:=hb3.size;clear hb3 x0 x1 x2 x4;go_wp2_with (fail);refine (HR2.out _ HB3.out).mono ?_;rintro e w4 ⟨rfl,hb4⟩;have x1:=(bat hb4 b1 _ (by omega)).trans y1;have x4:=(bat hb4 b1 _ (by omega)).trans y4;have HB4:=Lib.hid (HB3.out.trans (hb4.mono HB3.out.size));have z4:=hb4.size;clear hb4 y1 y2 y4 HR0 HR2
 cases hn0:numB p0 with
 | false =>
  have HE:Hid (chgR (bl s)=(zChg,9)):=chgR_day HCC.out rfl HAB.out (HN0.out false hn0);clear hn0;obtain⟨t0,t1,t2,t3⟩:=HD.out _ HB4.out;have gz:=bkF (bkB K0.out HB4.out (by omega));have BF:=Lib.hid (HH.out _ HB4.out);go_wp2_with fail;refine bodyPost_ret (v:=.tuple #[.agg #[.int .i64 0,.string ⟨#[]⟩,.string ⟨#[]⟩,.string ⟨#[]⟩],.int .i64 9]) (by simp[results,Tryz.results19,go_sem, *]) rfl ?_;exact⟨by rw[HE.out];rfl,(bset (bset (bset (bset BF.out (by omega) 0 _) (by omega) 1 _) (by omega) 2 _) (by omega) 3 _)⟩
 | true =>
 have HP0:Hid (num p0=some d):=HN0.out true hn0;clear hn0
 cases hn2:numB p2 with
 | false =>
  have HE:Hid (chgR (bl s)=(zChg,9)):=chgR_n HCC.out rfl HAB.out (HN2.out false hn2);clear hn2;obtain⟨t0,t1,t2,t3⟩:=HD.out _ HB4.out;have gz:=bkF (bkB K0.out HB4.out (by omega));have BF:=Lib.hid (HH.out _ HB4.out);go_wp2_with fail;refine bodyPost_ret (v:=.tuple #[.agg #[.int .i64 0,.string ⟨#[]⟩,.string ⟨#[]⟩,.string ⟨#[]⟩],.int .i64 9]) (by simp[results,Tryz.results19,go_sem, *]) rfl ?_;exact⟨by rw[HE.out];rfl,(bset (bset (bset (bset BF.out (by omega) 0 _) (by omega) 1 _) (by omega) 2 _) (by omega) 3 _)⟩
 | true =>
 have HP2:Hid (num p2=some n):=HN2.out true hn2;clear hn2 HN0 HN2 HV0 HV2
 by_cases hin:0≤n∧n≤(tt.size:Int)
 case neg =>
  have HE:Hid (chgR (bl s)=(zChg,9)):=chgR_out HCC.out rfl HAB.out HP2.out (by rw[← HTS.out];exact hin);have hib:inB n 0 (tt.size:Int)=false:=by
   rw[Bool.eq_false_iff];intro e;unfold inB at e;simp only[Bool.and_eq_true,decide_eq_true_eq] at e;exact hin e
  have HWF:Hid (∀ W:World,Calls Tryz.prog 44 #[.int .i64 n,.int .i64 0,.int .i64 (tt.size:Int)] W fun e w'=>e=.returned (.bool false)∧W=w'):=fun W=>by
   have:=HWI.out W n;rw[hib] at this;exact this
  clear hin hib;obtain⟨t0,t1,t2,t3⟩:=HD.out _ HB4.out;have gz:=bkF (bkB K0.out HB4.out (by omega));have BF:=Lib.hid (HH.out _ HB4.out);go_wp2_with (go_at_call 44;with_reducible refine (HWF.out _).mono ?_;rintro e w5 ⟨rfl,rfl⟩);refine bodyPost_ret (v:=.tuple #[.agg #[.int .i64 0,.string ⟨#[]⟩,.string ⟨#[]⟩,.string ⟨#[]⟩],.int .i64 9]) (by simp[results,Tryz.results19,go_sem, *]) rfl ?_;exact⟨by rw[HE.out];rfl,(bset (bset (bset (bset BF.out (by omega) 0 _) (by omega) 1 _) (by omega) 2 _) (by omega) 3 _)⟩
 obtain⟨k,rfl⟩:∃ k:Nat,n=(k:Int):=⟨n.toNat,by omega⟩
 have hk:k≤tt.size:=by omega
 have hib:inB (k:Int) 0 (tt.size:Int)=true:=by unfold inB;simp[hk]
 have HWT:Hid (∀ W:World,Calls Tryz.prog 44 #[.int .i64 (k:Int),.int .i64 0,.int .i64 (tt.size:Int)] W fun e w'=>e=.returned (.bool true)∧W=w'):=fun W=>by
  have:=HWI.out W (k:Int);rw[hib] at this;exact this
 have hki:(k:Int)≤(tt.size:Int):=by omega
 have hk0:(0:Int)≤(k:Int):=by omega
 have hti:(tt.size:Int)≤1048576:=by omega
 have HS4:Hid (∀ W,Below w4.heap.size w4 W→((W.cell? ⟨b1,off+1,none⟩=some (.string s1)∧W.cell? ⟨b1,off+4,none⟩=some (.string tt)))):=fun W hW=>⟨(bat hW b1 _ (by omega)).trans x1,(bat hW b1 _ (by omega)).trans x4⟩
 clear hin hib HWI;go_upto_region 11 with (go_at_call 44;with_reducible refine (HWT.out _).mono ?_;rintro e w5 ⟨rfl,rfl⟩);clear x1 x4;refine wp_region_ord 16 [(0,true),(1,true),(2,true),(3,true),(4,true),(5,true),(6,true),(7,true),(8,true),(9,true),(10,true),(11,true),(12,true),(13,true),(14,true),(15,false)] (fun W=>(W.cell? ⟨b1,off+1,none⟩=some (.string s1)∧W.cell? ⟨b1,off+4,none⟩=some (.string tt))) (by kernel_rfl) (by kernel_rfl) (HS4.out _ (below_drew1 _)) (fun hHeld=>?_);refine wpOrd_read (v:=?_) rfl (fun _ _ _ h=>h) ?_ ?_
 rotate_left
 ·(intro W hSW;(try dsimp only at hSW);(go_simp<;>with_reducible rfl))
 (try simp only[Act.put,List.setIfInBounds_toArray,List.set_cons_zero,List.set_cons_succ])
 refine wpOrd_read (v:=?_) rfl (fun _ _ _ h=>h) ?_ ?_
 rotate_left
 ·(intro W hSW;(try dsimp only at hSW);(go_simp<;>with_reducible rfl))
 (try simp only[Act.put,List.setIfInBounds_toArray,List.set_cons_zero,List.set_cons_succ])
 refine wpOrd_read (v:=?_) rfl (fun _ _ _ h=>h) ?_ ?_
 rotate_left
 ·(intro W hSW;(try dsimp only at hSW);(go_simp<;>with_reducible rfl))
 (try simp only[Act.put,List.setIfInBounds_toArray,List.set_cons_zero,List.set_cons_succ])
 refine wpOrd_read (v:=?_) rfl (fun _ _ _ h=>h) ?_ ?_
 rotate_left
 ·(intro W hSW;(try dsimp only at hSW);(go_simp<;>with_reducible rfl))
 (try simp only[Act.put,List.setIfInBounds_toArray,List.set_cons_zero,List.set_cons_succ])
 refine wpOrd_read (v:=?_) rfl (fun _ _ _ h=>h) ?_ ?_
 rotate_left
 ·(intro W hSW;(try dsimp only at hSW);(go_simp<;>with_reducible rfl))
 (try simp only[Act.put,List.setIfInBounds_toArray,List.set_cons_zero,List.set_cons_succ])
 refine wpOrd_read (v:=?_) rfl (fun _ _ _ h=>h) ?_ ?_
 rotate_left
 ·(intro W hSW;(try dsimp only at hSW);(go_simp<;>with_reducible rfl))
 (try simp only[Act.put,List.setIfInBounds_toArray,List.set_cons_zero,List.set_cons_succ])
 refine wpOrd_read (v:=?_) rfl (fun _ _ _ h=>h) ?_ ?_
 rotate_left
 ·(intro W hSW;(try dsimp only at hSW);(go_simp<;>with_reducible rfl))
 (try simp only[Act.put,List.setIfInBounds_toArray,List.set_cons_zero,List.set_cons_succ])
 refine wpOrd_read (v:=?_) rfl (fun _ _ _ h=>h) ?_ ?_
 rotate_left
 ·(intro W hSW;(try dsimp only at hSW);(go_simp<;>with_reducible rfl))
 (try simp only[Act.put,List.setIfInBounds_toArray,List.set_cons_zero,List.set_cons_succ])
 refine wpOrd_read (v:=?_) rfl (fun _ _ _ h=>h) ?_ ?_
 rotate_left
 ·(intro W hSW;(try dsimp only at hSW);(go_simp<;>with_reducible rfl))
 (try simp only[Act.put,List.setIfInBounds_toArray,List.set_cons_zero,List.set_cons_succ])
 refine wpOrd_read (v:=?_) rfl (fun _ _ _ h=>h) ?_ ?_
 rotate_left
 ·(intro W hSW;(try dsimp only at hSW);(go_simp<;>with_reducible rfl))
 (try simp only[Act.put,List.setIfInBounds_toArray,List.set_cons_zero,List.set_cons_succ])
 refine wpOrd_read (v:=?_) rfl (fun _ _ _ h=>h) ?_ ?_
 rotate_left
 ·(intro W hSW;(try dsimp only at hSW);(go_simp<;>with_reducible rfl))
 (try simp only[Act.put,List.setIfInBounds_toArray,List.set_cons_zero,List.set_cons_succ])
 refine wpOrd_read (v:=?_) rfl (fun _ _ _ h=>h) ?_ ?_
 rotate_left
 ·(intro W hSW;(try dsimp only at hSW);(go_simp<;>with_reducible rfl))
 (try simp only[Act.put,List.setIfInBounds_toArray,List.set_cons_zero,List.set_cons_succ])
 refine wpOrd_read (v:=?_) rfl (fun _ _ _ h=>h) ?_ ?_
 rotate_left
 ·(intro W hSW;(try dsimp only at hSW);(go_simp<;>with_reducible rfl))
 (try simp only[Act.put,List.setIfInBounds_toArray,List.set_cons_zero,List.set_cons_succ])
 refine wpOrd_read (v:=?_) rfl (fun _ _ _ h=>h) ?_ ?_
 rotate_left
 ·(intro W hSW;(try dsimp only at hSW);(go_simp<;>with_reducible rfl))
 (try simp only[Act.put,List.setIfInBounds_toArray,List.set_cons_zero,List.set_cons_succ])
 refine wpOrd_read (v:=?_) rfl (fun _ _ _ h=>h) ?_ ?_
 rotate_left
 ·(intro W hSW;(try dsimp only at hSW);(go_simp<;>with_reducible rfl))
 (try simp only[Act.put,List.setIfInBounds_toArray,List.set_cons_zero,List.set_cons_succ])
 have HBD:=Lib.hid (HB4.out.trans ((below_drew1 w4).mono HB4.out.size));have hzd:w4.heap.size≤w4.drew.heap.size:=Nat.le_refl _;have HSD:Hid (∀ W,Below w4.drew.heap.size w4.drew W→((W.cell? ⟨b1,off+1,none⟩=some (.string s1)∧W.cell? ⟨b1,off+4,none⟩=some (.string tt)))):=fun W hW=>HS4.out W ((below_drew1 w4).trans (hW.mono hzd))
 generalize w4.drew=w6 at *;refine wpOrd_step rfl (fun K hK=>?_);go_simp;refine hK.out _ _ (HSD.out _ (below_alloc w6 _)) ?_;clear hK K
 (try simp only[Act.put,List.setIfInBounds_toArray,List.set_cons_zero,List.set_cons_succ])
 refine wpOrd_nil ?_;simp only[List.drop_succ_cons,List.drop_zero];have hO:tt.extract 0 k=ofL (t.take k):=by rw[extract_seg tt 0 k hk,seg_take,HOT.out]
 have hN:tt.extract k tt.size=ofL (t.drop k):=by rw[extract_seg tt k _ (Nat.le_refl _),HOT.out,seg_drop _ _ _ (by rw[HTS.out];exact Nat.le_refl _)]
 have hzO:(tt.extract 0 k).size≤1048576:=by rw[ByteArray.size_extract];omega
 have hzN:(tt.extract k tt.size).size≤1048576:=by rw[ByteArray.size_extract];omega
 have hob:chgOf d p1 t k=⟨d,s1,tt.extract 0 k,tt.extract k tt.size⟩:=by unfold chgOf;rw[hO,hN,← HO1.out,ofL_bl]
 have hci:=chgR_in HCC.out HAB.out HP0.out HP2.out (by rw[← HTS.out];exact hk) (by rw[← HTS.out];exact hst);rw[hob] at hci;have HID:I64 d:=I64_num HP0.out;clear hO hN hob;generalize tt.extract 0 k=tO at *;generalize tt.extract k tt.size=tN at *;go_upto_region 12 with (fail);obtain⟨W5,hW5,b5,z5,k5⟩:=boxes1 w6 #[.int .i64 d,.string s1,.string tO,.string tN] 44;rw[hW5];clear hW5;have HB5:=Lib.hid (HBD.out.trans (b5.mono HBD.out.size));have K5:=Lib.hid k5;have zb5:=HBD.out.size;clear b5 k5;obtain⟨t0,t1,t2,t3⟩:=HD.out _ HB5.out;have gz:=bkF (bkB K0.out HB5.out (by omega));have q0:=bkC (v:=.int .i64 d) K5.out 0 rfl;have q1:=bkC (v:=.string s1) K5.out 1 rfl;have q2:=bkC (v:=.string tO) K5.out 2 rfl;have q3:=bkC (v:=.string tN) K5.out 3 rfl;have BF:=Lib.hid (HH.out _ HB5.out);have HCV:Hid (∀ W:World,Calls Tryz.prog 45 #[.agg #[.int .i64 d,.string s1,.string tO,.string tN]] W fun e w'=>e=.returned (.bool (changeB ⟨d,s1,tO,tN⟩))∧Below W.heap.size W w'):=fun W=>changeValid_any ⟨d,s1,tO,tN⟩ W (by show s1.size≤_;unfold maxLen;omega) (by show tO.size≤_;unfold maxLen;omega) (by show tN.size≤_;unfold maxLen;omega)
 have HLN:Hid (∀ W:World,Below W0.heap.size W0 W→Calls Tryz.prog 17 #[.agg #[.int .i64 d,.string s1,.string tO,.string tN]] W fun e w'=>e=.returned (.string (ofL (lineL ⟨d,s1,tO,tN⟩)))∧Below W.heap.size W w'):=fun W hW=>changeLine_any ⟨d,s1,tO,tN⟩ ⟨HID,hs1,hzO,hzN⟩ W (HLW.out W hW)
 by_cases hcv:changeB ⟨d,s1,tO,tN⟩=true
 case neg =>
  have HE:Hid (chgR (bl s)=(zChg,9)):=by show _=_;rw[hci,if_neg fun e=>hcv e.1]
  rw[Bool.eq_false_iff.2 hcv] at HCV;clear hci hcv HLN;go_wp2_with (go_at_call 45;with_reducible refine (HCV.out _).mono ?_;rintro e w7 ⟨rfl,hb7⟩;clear t0 t1 t2 t3 gz q0 q1 q2 q3 BF;have HB7:=Lib.hid (HB5.out.trans (hb7.mono HB5.out.size));have K7:=Lib.hid (bkB K5.out hb7 (by omega));have zz:=hb7.size;clear hb7;obtain⟨t0,t1,t2,t3⟩:=HD.out _ HB7.out;have gz:=bkF (bkB K0.out HB7.out (by omega));have q0:=bkC (v:=.int .i64 d) K7.out 0 rfl;have q1:=bkC (v:=.string s1) K7.out 1 rfl;have q2:=bkC (v:=.string tO) K7.out 2 rfl;have q3:=bkC (v:=.string tN) K7.out 3 rfl;have BF:=Lib.hid (HH.out _ HB7.out));refine bodyPost_ret (v:=.tuple #[.agg #[.int .i64 0,.string ⟨#[]⟩,.string ⟨#[]⟩,.string ⟨#[]⟩],.int .i64 9]) (by simp[results,Tryz.results19,go_sem, *]) rfl ?_;exact⟨by rw[HE.out];rfl,(bset (bset (bset (bset BF.out (by omega) 0 _) (by omega) 1 _) (by omega) 2 _) (by omega) 3 _)⟩
 rw[hcv] at HCV
 by_cases hln:lineL ⟨d,s1,tO,tN⟩=bl s
 case neg =>
  have HE:Hid (chgR (bl s)=(zChg,9)):=by show _=_;rw[hci,if_neg fun e=>hln e.2]
  have hqe:((ofL (lineL ⟨d,s1,tO,tN⟩)).toList == s.toList)=false:=by
   rw[toList_ofLL,beq_eq_false_iff_ne];intro e;exact hln (by rw[e,ByteArray.toList_eq];rfl)
  clear hci hcv hln;generalize ofL (lineL ⟨d,s1,tO,tN⟩)=tl at *;have hqn:(tl.toList != s.toList)=true:=by unfold bne;rw[hqe];rfl
  go_wp2_with (first|(go_at_call 45;with_reducible refine (HCV.out _).mono ?_;rintro e w7 ⟨rfl,hb7⟩;clear t0 t1 t2 t3 gz q0 q1 q2 q3 BF;have HB7:=Lib.hid (HB5.out.trans (hb7.mono HB5.out.size));have K7:=Lib.hid (bkB K5.out hb7 (by omega));have zz:=hb7.size;clear hb7;obtain⟨t0,t1,t2,t3⟩:=HD.out _ HB7.out;have gz:=bkF (bkB K0.out HB7.out (by omega));have q0:=bkC (v:=.int .i64 d) K7.out 0 rfl;have q1:=bkC (v:=.string s1) K7.out 1 rfl;have q2:=bkC (v:=.string tO) K7.out 2 rfl;have q3:=bkC (v:=.string tN) K7.out 3 rfl;have BF:=Lib.hid (HH.out _ HB7.out))|(go_at_call 17;with_reducible refine (HLN.out _ HB7.out).mono ?_;rintro e w8 ⟨rfl,hb8⟩;clear t0 t1 t2 t3 gz q0 q1 q2 q3 BF;have HB8:=Lib.hid (HB7.out.trans (hb8.mono HB7.out.size));have K8:=Lib.hid (bkB K7.out hb8 (by omega));have zz:=hb8.size;clear hb8;obtain⟨t0,t1,t2,t3⟩:=HD.out _ HB8.out;have gz:=bkF (bkB K0.out HB8.out (by omega));have q0:=bkC (v:=.int .i64 d) K8.out 0 rfl;have q1:=bkC (v:=.string s1) K8.out 1 rfl;have q2:=bkC (v:=.string tO) K8.out 2 rfl;have q3:=bkC (v:=.string tN) K8.out 3 rfl;have BF:=Lib.hid (HH.out _ HB8.out)));refine bodyPost_ret (v:=.tuple #[.agg #[.int .i64 0,.string ⟨#[]⟩,.string ⟨#[]⟩,.string ⟨#[]⟩],.int .i64 9]) (by simp[results,Tryz.results19,go_sem, *]) rfl ?_;exact⟨by rw[HE.out];rfl,(bset (bset (bset (bset BF.out (by omega) 0 _) (by omega) 1 _) (by omega) 2 _) (by omega) 3 _)⟩
 case pos =>
  have HE:Hid (chgR (bl s)=(⟨d,s1,tO,tN⟩,0)):=by show _=_;rw[hci,if_pos ⟨hcv,hln⟩]
  rw[hln,ofL_bl] at HLN;have hqe:(s.toList == s.toList)=true:=beq_iff_eq.2 rfl;have hqn:(s.toList != s.toList)=false:=by unfold bne;rw[hqe];rfl
  clear hci hcv hln;go_wp2_with (first|(go_at_call 45;with_reducible refine (HCV.out _).mono ?_;rintro e w7 ⟨rfl,hb7⟩;clear t0 t1 t2 t3 gz q0 q1 q2 q3 BF;have HB7:=Lib.hid (HB5.out.trans (hb7.mono HB5.out.size));have K7:=Lib.hid (bkB K5.out hb7 (by omega));have zz:=hb7.size;clear hb7;obtain⟨t0,t1,t2,t3⟩:=HD.out _ HB7.out;have gz:=bkF (bkB K0.out HB7.out (by omega));have q0:=bkC (v:=.int .i64 d) K7.out 0 rfl;have q1:=bkC (v:=.string s1) K7.out 1 rfl;have q2:=bkC (v:=.string tO) K7.out 2 rfl;have q3:=bkC (v:=.string tN) K7.out 3 rfl;have BF:=Lib.hid (HH.out _ HB7.out))|(go_at_call 17;with_reducible refine (HLN.out _ HB7.out).mono ?_;rintro e w8 ⟨rfl,hb8⟩;clear t0 t1 t2 t3 gz q0 q1 q2 q3 BF;have HB8:=Lib.hid (HB7.out.trans (hb8.mono HB7.out.size));have K8:=Lib.hid (bkB K7.out hb8 (by omega));have zz:=hb8.size;clear hb8;obtain⟨t0,t1,t2,t3⟩:=HD.out _ HB8.out;have gz:=bkF (bkB K0.out HB8.out (by omega));have q0:=bkC (v:=.int .i64 d) K8.out 0 rfl;have q1:=bkC (v:=.string s1) K8.out 1 rfl;have q2:=bkC (v:=.string tO) K8.out 2 rfl;have q3:=bkC (v:=.string tN) K8.out 3 rfl;have BF:=Lib.hid (HH.out _ HB8.out)));refine bodyPost_ret (v:=.tuple #[.agg #[.int .i64 d,.string s1,.string tO,.string tN],.int .i64 0]) (by simp[results,Tryz.results19,go_sem, *]) rfl ?_;exact⟨by rw[HE.out];rfl,(bset (bset (bset (bset BF.out (by omega) 0 _) (by omega) 1 _) (by omega) 2 _) (by omega) 3 _)⟩
end Go.Proofs.YtmkkiglcpedkiaaGreatDoor
