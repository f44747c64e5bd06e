/- Contracts: the damaged lines of a text, for the program and for the reference. Conditions: bounded sizes; the library's own variables hold what they hold at the start. -/
import Derived.Test.YtmkkiglcpedkiaaGreatDoorLr4
import Derived.Test.YtmkkiglcpedkiaaGreatDoorReg1s
set_option linter.unusedVariables false
set_option linter.unusedSimpArgs false
namespace Go.Proofs.YtmkkiglcpedkiaaGreatDoor
open Go.RowKit
theorem valueB_len {s:ByteArray} (h:(eqS s emptyS || valueB s)=true):s.size≤200:=by
 rcases Bool.or_eq_true_iff.1 h with e|e
 ·rw[eqS_iff.1 e];exact Nat.zero_le _
 ·unfold valueB at e
  simp only[Bool.and_eq_true,decide_eq_true_eq] at e;omega
theorem changeB_len {x:DChange} (h:changeB x=true):x.old_.size≤200∧x.new_.size≤200:=by
 unfold changeB at h;simp only[Bool.and_eq_true] at h;exact⟨valueB_len h.2.2.1,valueB_len h.2.2.2.1⟩
theorem chgR_ok {line body p0 p1 p2 p3 t:List UInt8} {d:Int} {k:Nat} {m:Int} (h:lastCut 32 line=some (body,Go.Lib.itoa (crcL body 65535))) (hp:splitN 32 4 body = [p0,p1,p2,p3,t]) (h0:num p0=some d) (h2:num p2=some (k:Int)) (h3:num p3=some m) (hm:(k:Int)+m=(t.length:Int)) (hk:k≤t.length):chgR line=if changeB (chgOf d p1 t k)=true then (chgOf d p1 t k,0) else (zChg,9):=by
 rw[chgR_five h rfl hp,h0,h2,h3];simp only[Int.toNat_natCast]
 by_cases hc:changeB (chgOf d p1 t k)=true
 ·rw[if_pos hc];exact if_pos ⟨by omega,hm,by omega,hc⟩
 ·rw[if_neg hc];exact if_neg fun e=>hc e.2.2.2
theorem cut_lt {c:UInt8} {l x y:List UInt8} (h:lastCut c l=some (x,y)):x.length≤l.length:=by
 rw[(lastCut_some h).1,List.length_append];omega
set_option maxHeartbeats 8000000
set_option maxRecDepth 100000
theorem linesT_mem {t:List UInt8} {l:List UInt8} (h:l ∈ (linesT t).1):l.length≤t.length:=by
 have hs:∀ x ∈ splitC 10 t,x.length≤t.length:=fun x hx=>by
  have hx':ofL x ∈ wordsB 10 (ofL t):=by unfold wordsB;rw[bl_ofL];exact List.mem_map_of_mem hx
  exact words_size 10 (ofL t) _ hx'
 unfold linesT at h
 split at h
 ·simp at h
 ·split at h
  ·simp at h
  ·split at h
   ·simp at h
   ·exact hs l (List.mem_of_mem_tail h)
theorem linesR_mem {s:List UInt8} {l:List UInt8} (h:l ∈ (linesR s).1):l.length≤s.length:=by
 unfold linesR at h
 split at h
 ·have:=linesT_mem h
  rw[List.length_dropLast] at this;omega
 ·simp at h
theorem linesT_len (t:List UInt8):(linesT t).1.length≤48:=by
 unfold linesT
 split
 ·simp
 ·rename_i m hm
  have:=headR_range hm
  split
  ·simp
  ·split
   ·simp
   ·simp only[List.length_tail];omega
theorem linesR_len (s:List UInt8):(linesR s).1.length≤48:=by
 unfold linesR
 split
 ·exact linesT_len _
 ·simp
def dmgK (ls:List (List UInt8)):Nat→List Int
 | 0=>[]
 | k+1=>dmgK ls k++(if (chgR ((ls[k]?).getD [])).2=0 then [] else [(k:Int)+1])
theorem dmgK_len (ls:List (List UInt8)) (k:Nat):(dmgK ls k).length≤k:=by
 induction k with
 | zero=>exact Nat.le_refl _
 | succ k ih =>
  rw[dmgK,List.length_append]
  split<;>simp<;>omega
def dmgR (s:List UInt8):List Int × Int:=if (linesR s).2=0 then (dmgK (linesR s).1 (linesR s).1.length,0) else ([],(linesR s).2)
def DmgP (o:List Int × Int) (w:World) (e:Ending) (w':World):Prop :=
 ∃ a c fp,e=.returned (.tuple #[.slice a o.1.length c,.int .i64 o.2])∧Below w.heap.size w w'∧Own w' (intsT o.1) (.slice a o.1.length c) fp∧In w.heap.size w'.heap.size fp
theorem own_nilD (w:World):Own w (intsT []) (.slice none 0 0) []:=⟨Rep_sl.2 ⟨none,0,0,rfl,rfl,Nat.le_refl _,by unfold maxLen;omega,Or.inl ⟨rfl,rfl⟩⟩,List.nodup_nil,fun b h=>by simp at h⟩
theorem DmgP.none_ {o:List Int × Int} {c:Int} {w w':World} {e:Ending} (ho:o=([],c)) (he:e=.returned (.tuple #[.slice none 0 0,.int .i64 c])) (hb:Below w.heap.size w w'):DmgP o w e w':=by
 subst ho;exact⟨none,0,[],he,hb,own_nilD _,In.nil⟩
theorem iDamagedFrames_any (s:ByteArray) (hs:s.size≤1048576) (w:World) (L:LibW w):Calls Tryz.prog 8 #[.string s] w (DmgP (dmgR (bl s)) w):=by
 have HLN:Hid (∀ W,LibW W→Calls Tryz.prog 18 #[.string s] W (LinesP (linesR (bl s)) W)):=fun W hW=>registerLines_any s hs W hW
 have hlen:=linesR_len (bl s);have hmem:∀ l ∈ (linesR (bl s)).1,l.length≤1048576:=fun l hl=>by have:=linesR_mem hl;rw[bl_len] at this;omega
 have HL:=Lib.hid L;clear L
 by_cases h0:(linesR (bl s)).2=0
 case neg =>
  have HE:Hid (dmgR (bl s)=([],(linesR (bl s)).2)):=by show _=_;unfold dmgR;rw[if_neg h0]
  rw[HE.out];generalize linesR (bl s)=o at *;obtain⟨ls,c⟩:=o;simp only at *;have hq:(c != 0)=true:=by rw[bne_iff_ne];exact h0
  have hq2:(c == 0)=false:=by rw[beq_eq_false_iff_ne];exact h0
  clear h0 HE hlen hmem;go_enter Tryz.func8,Tryz.ntmps8;go_wp2_with (fail);refine (HLN.out _ HL.out).mono ?_;rintro e w1 ⟨a1,c1,rfl,hb1,hr1⟩;clear hr1;go_wp2;go_ret2;exact DmgP.none_ rfl rfl hb1
 have HE:Hid (dmgR (bl s)=(dmgK (linesR (bl s)).1 (linesR (bl s)).1.length,0)):=by show _=_;unfold dmgR;rw[if_pos h0]
 rw[HE.out];have ho:linesR (bl s)=((linesR (bl s)).1,0):=by rw[← h0]
 rw[ho] at HLN;generalize (linesR (bl s)).1=ls at *;clear h0 HE ho hs;obtain⟨i0,hi0,hz0,hz1,hz2⟩:=info_parts infoI;have HRC:Hid (∀ l,l ∈ ls→∀ W:World,LibW W→Calls Tryz.prog 19 #[.string (ofL l)] W fun e w'=>e=.returned (.tuple #[.agg #[.int .i64 (chgR l).1.day,.string (chgR l).1.key,.string (chgR l).1.old_,.string (chgR l).1.new_],.int .i64 (chgR l).2])∧Below W.heap.size W w'):=fun l hl W hW=>by
  have hll:=hmem l hl;exact readChange_any (ofL l) (by show l.length≤_;omega) W hW
 clear hmem;have hln:(ls.length:Int)≤48:=by omega
 go_enter Tryz.func8,Tryz.ntmps8;go_wp2_with (fail);refine (HLN.out _ HL.out).mono ?_;rintro e w1 ⟨a1,c1,rfl,hb1,hr1⟩;have HB1:=Lib.hid hb1;have z1:=hb1.size;simp only[] at hr1;have hr2:Rd w1.heap.size w1 (strsT (ls.map ofL)) (.slice a1 ls.length c1):=hr1;obtain⟨a2,c2,e1,_,_,hcl⟩:=Rd.strs hr2;have e1':Value.slice a1 ls.length c1=Value.slice a2 (ls.map ofL).length c2:=e1;injection e1' with e1 e2 e3;subst e1 e3;have HCL:=Lib.hid hcl;clear hb1 hr1 hr2 hcl e2 HLN;go_wp2;go_loopw [6,21] (fun v i wr=>∃ (k:Nat),k≤ls.length∧i=.int .i64 k∧Below w1.heap.size w1 wr∧Grow wr w1.heap.size 2 1 v (dmgK ls k).length ((dmgK ls k).map intT) []) (fun _ i wr=>ls.length-(intOf i).toNat)
 case atStart=>exact⟨0,Nat.zero_le _,rfl,Below.refl _ _,by show Grow _ _ _ _ _ 0 [] [];exact Grow.nil⟩
 case round =>
  obtain⟨k,hk,rfl,hb,hgr⟩:=hrel;have HB:=Lib.hid hb;have HG:=Lib.hid hgr;have zr:=hb.size;have hdl:=dmgK_len ls k;clear hb hgr
  by_cases hlt:k<ls.length
  ·obtain⟨b,off,ea,hbb,hat⟩:=HCL.out (by rw[List.length_map];omega)
   subst ea;have hc:=hat k (by rw[List.length_map];exact hlt);rw[List.getElem_map] at hc;rw[← bat HB.out b _ hbb] at hc;clear hat;have hg:(ls[k]?).getD []=ls[k]:=by rw[List.getElem?_eq_getElem hlt];rfl
   have hds:dmgK ls (k+1)=dmgK ls k++(if (chgR ls[k]).2=0 then [] else [(k:Int)+1]):=by rw[dmgK,hg]
   have HRK:=Lib.hid (HRC.out ls[k] (List.getElem_mem hlt) wr (HL.out.mono (HB1.out.trans (HB.out.mono z1))));generalize ls[k]=l at *;clear hg;go_upto_region 9 with (go_at_call 19;with_reducible refine HRK.out.mono ?_;rintro e w2 ⟨rfl,hb2⟩);obtain⟨W3,hW3,b3,z3,k3⟩:=boxes1 w2 #[.int .i64 (chgR l).1.day,.string (chgR l).1.key,.string (chgR l).1.old_,.string (chgR l).1.new_] 44;rw[hW3];clear hW3;have z2:=hb2.size;have HBA:=Lib.hid (hb2.trans (b3.mono z2));clear hb2 b3 k3 hc HRK;have zA:=HBA.out.size
   by_cases hc0:(chgR l).2=0
   ·rw[if_pos hc0,List.append_nil] at hds
    rw[hc0];clear hc0;have HDS:=Lib.hid hds;clear hds;go_wp2;go_roundw
    case rel=>exact⟨k+1,by omega,by go_num,HB.out.trans (HBA.out.mono zr),by rw[HDS.out];exact HG.out.below (lo:=0) In.nil HBA.out⟩
    case measure=>simp[intOf];omega
   ·rw[if_neg hc0] at hds
    have hq:((chgR l).2 != 0)=true:=by rw[bne_iff_ne];exact hc0
    have hq2:((chgR l).2 == 0)=false:=by rw[beq_eq_false_iff_ne];exact hc0
    clear hc0;generalize (chgR l).2=code at *;have HDS:=Lib.hid hds;clear hds;have HG2:=Lib.hid (HG.out.below (lo:=0) In.nil HBA.out);have hki:(k:Int)+1≤48:=by omega
    go_upto_region 10 with (fail);go_wp2_with (at_builtin;refine wpList_append1 rfl (.tmp 33) (.tmp 36) _ rfl (w1.heap.size) 2 i0 _ 1 8 Tryz.underlying33 hi0 hz0 hz1 hz2 rfl (by omega) _ _ _ [] rfl HG2.out [.int .i64 ((k:Int)+1)] [intT ((k:Int)+1)] [] rfl 1 rfl (fun u hu=>by simp at hu;subst hu;rfl) (RepV.lits [.int .i64 ((k:Int)+1)]) List.nodup_nil (fun b h=>by simp at h) 0 In.nil In.nil (by simp) (by simp) (by unfold maxLen;omega) (by omega) (by omega) ?_;intro v2 w4 hgn);have HGN:=Lib.hid hgn;clear hgn;go_wp2;go_roundw
    case rel =>
     refine⟨k+1,by omega,by go_num,(HB.out.trans (HBA.out.mono zr)).trans HGN.out.below,?_⟩;rw[HDS.out,List.length_append,List.map_append];exact HGN.out.grow
    case measure=>simp[intOf];omega
  ·obtain rfl:k=ls.length:=by omega
   obtain⟨av,cv,fv,ev,ov,iv⟩:=HG.out.toOwn (lo:=w1.heap.size) (by omega) In.nil (by omega);subst ev;have OV:=Lib.hid ov;have IV:=Lib.hid iv;clear ov iv HG;go_wp2;go_ret2;exact⟨av,cv,fv,rfl,HB1.out.trans (HB.out.mono z1),OV.out,IV.out.mono z1 (Nat.le_refl _)⟩
end Go.Proofs.YtmkkiglcpedkiaaGreatDoor
