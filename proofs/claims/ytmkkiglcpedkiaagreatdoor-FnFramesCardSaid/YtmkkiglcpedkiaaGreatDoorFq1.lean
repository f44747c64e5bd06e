/- A valid register is restored from its text. Plain. No program. -/
import Derived.Test.YtmkkiglcpedkiaaGreatDoorLr6
import Derived.Test.YtmkkiglcpedkiaaGreatDoorReg12
import Derived.Test.YtmkkiglcpedkiaaGreatDoorSr4
set_option linter.unusedVariables false
set_option linter.unusedSimpArgs false
namespace Go.Proofs.YtmkkiglcpedkiaaGreatDoor
open Go.RowKit
def zReg:DRegister:=⟨[],[]⟩
theorem chgR_zero {l:List UInt8} (h:(chgR l).2=0):changeB (chgR l).1=true∧(chgR l).1.key.size≤l.length∧(chgR l).1.old_.size≤l.length∧(chgR l).1.new_.size≤l.length:=by
 cases hc:lastCut 32 l with
 | none=>rw[chgR_none hc] at h;cases h
 | some p =>
  obtain⟨body,sum⟩:=p
  by_cases hs:sum=Go.Lib.itoa (crcL body 65535)
  case neg=>rw[chgR_sum hc hs] at h;cases h
  by_cases hl:(splitN 32 4 body).length=5
  case neg=>rw[chgR_len hc hs hl] at h;cases h
  obtain⟨p0,p1,p2,p3,t,hab⟩:∃ p0 p1 p2 p3 t,splitN 32 4 body = [p0,p1,p2,p3,t]:=by
   match h:splitN 32 4 body,hl with
   | [p0,p1,p2,p3,t],_=>exact⟨p0,p1,p2,p3,t,rfl⟩
  have hf:=chgR_five hc hs hab
  cases h0:num p0 with
  | none=>rw[h0] at hf;rw[hf] at h;cases h
  | some d =>
   cases h2:num p2 with
   | none=>rw[h0,h2] at hf;rw[hf] at h;cases h
   | some n =>
    cases h3:num p3 with
    | none=>rw[h0,h2,h3] at hf;rw[hf] at h;cases h
    | some m =>
     rw[h0,h2,h3] at hf;simp only at hf
     by_cases hb:0≤n∧n+m=(t.length:Int)∧n≤(t.length:Int)∧changeB (chgOf d p1 t n.toNat)=true
     ·rw[if_pos hb] at hf
      rw[hf];have hbl:=cut_lt hc;have hm1:p1.length≤body.length:=splitN_size 32 body 4 p1 (by rw[hab];simp);have hmt:t.length≤body.length:=splitN_size 32 body 4 t (by rw[hab];simp);refine⟨hb.2.2.2,Nat.le_trans hm1 hbl,?_,?_⟩
      ·show (t.take n.toNat).length≤_
       rw[List.length_take];omega
      ·show (t.drop n.toNat).length≤_
       rw[List.length_drop];omega
     ·rw[if_neg hb] at hf;rw[hf] at h;cases h
def stepR (r:DRegister) (l:List UInt8):DRegister × Int:=if (chgR l).2=0 then (if eqS (valOf r.records (chgR l).1.key) (chgR l).1.old_=true then (if laterB r (chgR l).1.day=true then (zReg,7) else withR r (chgR l).1) else (zReg,6)) else (zReg,(chgR l).2)
def loadK (ls:List (List UInt8)):Nat→DRegister × Int × Int
 | 0=>(zReg,0,0)
 | k+1=>if (loadK ls k).2.2=0 then (if (stepR (loadK ls k).1 ((ls[k]?).getD [])).2=0 then ((stepR (loadK ls k).1 ((ls[k]?).getD [])).1,0,0) else (zReg,(k:Int)+1,(stepR (loadK ls k).1 ((ls[k]?).getD [])).2)) else loadK ls k
def loadR (s:List UInt8):DRegister × Int × Int:=if (linesR s).2=0 then loadK (linesR s).1 (linesR s).1.length else (zReg,0,(linesR s).2)
section
variable {ls:List (List UInt8)} {k:Nat} {r r':DRegister} {c:Int} {l:List UInt8}
theorem loadK_go (h:loadK ls k=(r,0,0)) (hk:k<ls.length) (hs:stepR r ls[k]=(r',0)):loadK ls (k+1)=(r',0,0):=by
 rw[loadK,h];simp only;rw[if_pos trivial,List.getElem?_eq_getElem hk,Option.getD_some,hs];exact if_pos rfl
theorem loadK_stay {n:Int} (h:loadK ls k=(r,n,c)) (hc:c≠0):∀ j,loadK ls (k+j)=(r,n,c):=by
 intro j
 induction j with
 | zero=>exact h
 | succ j ih =>
  rw[← Nat.add_assoc,loadK,ih];exact if_neg hc
theorem loadK_stop (h:loadK ls k=(r,0,0)) (hk:k<ls.length) (hs:(stepR r ls[k]).2=c) (hc:c≠0):loadK ls ls.length=(zReg,(k:Int)+1,c):=by
 have h1:loadK ls (k+1)=(zReg,(k:Int)+1,c):=by
  rw[loadK,h];simp only;rw[if_pos trivial,List.getElem?_eq_getElem hk,Option.getD_some,hs];exact if_neg hc
 have:=loadK_stay h1 hc (ls.length-(k+1))
 rwa [show k+1+(ls.length-(k+1))=ls.length by omega] at this
theorem stepR_code (h:(chgR l).2≠0):stepR r l=(zReg,(chgR l).2):=by unfold stepR;rw[if_neg h]
theorem stepR_val (h:(chgR l).2=0) (h1:eqS (valOf r.records (chgR l).1.key) (chgR l).1.old_=false):stepR r l=(zReg,6):=by unfold stepR;rw[if_pos h,if_neg (by rw[h1];simp)]
theorem stepR_later (h:(chgR l).2=0) (h1:eqS (valOf r.records (chgR l).1.key) (chgR l).1.old_=true) (h2:laterB r (chgR l).1.day=true):stepR r l=(zReg,7):=by unfold stepR;rw[if_pos h,if_pos h1,if_pos h2]
theorem stepR_with (h:(chgR l).2=0) (h1:eqS (valOf r.records (chgR l).1.key) (chgR l).1.old_=true) (h2:laterB r (chgR l).1.day=false):stepR r l=withR r (chgR l).1:=by unfold stepR;rw[if_pos h,if_pos h1,if_neg (by rw[h2];simp)]
theorem withR_zero (c:DChange):withR r c=(wReg r c,0)∧(putL r.records c.key c.new_).length≤32∧r.changes.length+1≤48∨withR r c=(zReg,5):=by
 unfold withR
 by_cases h1:32<(putL r.records c.key c.new_).length
 ·rw[if_pos h1];exact Or.inr rfl
 ·rw[if_neg h1]
  by_cases h2:48<r.changes.length+1
  ·rw[if_pos h2];exact Or.inr rfl
  ·rw[if_neg h2];exact Or.inl ⟨rfl,by omega,by omega⟩
theorem stepR_zero {x:DRegister} (hs:stepR r l=(x,0)):(chgR l).2=0∧x=wReg r (chgR l).1∧(putL r.records (chgR l).1.key (chgR l).1.new_).length≤32∧r.changes.length+1≤48:=by
 unfold stepR at hs
 by_cases h:(chgR l).2=0
 case neg=>rw[if_neg h] at hs;exact absurd (Prod.mk.inj hs).2 h
 rw[if_pos h] at hs
 by_cases h1:eqS (valOf r.records (chgR l).1.key) (chgR l).1.old_=true
 case neg=>rw[if_neg h1] at hs;exact absurd (Prod.mk.inj hs).2 (by decide)
 rw[if_pos h1] at hs
 by_cases h2:laterB r (chgR l).1.day=true
 case pos=>rw[if_pos h2] at hs;exact absurd (Prod.mk.inj hs).2 (by decide)
 rw[if_neg h2] at hs
 rcases withR_zero (r:=r) (chgR l).1 with ⟨e,e1,e2⟩|e
 ·rw[e] at hs
  exact⟨h,(Prod.mk.inj hs).1.symm,e1,e2⟩
 ·rw[e] at hs;exact absurd (Prod.mk.inj hs).2 (by decide)
structure LoadOk (m:Nat) (k:Nat) (r:DRegister):Prop where
 rise:Rise r.records
 rcs:r.records.length≤32
 chg:r.changes.length≤48
 few:r.changes.length≤k
 recs:∀ x ∈ r.records,x.key.size≤m∧x.value.size≤m
 chgs:∀ x ∈ r.changes,x.key.size≤m∧x.old_.size≤m∧x.new_.size≤m∧I64 x.day
theorem loadK_ok {m:Nat} (hm:∀ l ∈ ls,l.length≤m) (k:Nat) (hk:k≤ls.length):LoadOk m k (loadK ls k).1:=by
 have hz:∀ k,LoadOk m k zReg:=fun k=>⟨List.Pairwise.nil,by simp[zReg],by simp[zReg],by simp[zReg],fun x h=>by simp[zReg] at h,fun x h=>by simp[zReg] at h⟩
 induction k with
 | zero=>exact hz 0
 | succ k ih =>
  have ih:=ih (by omega);rw[loadK]
  by_cases h0:(loadK ls k).2.2=0
  ·rw[if_pos h0,List.getElem?_eq_getElem (show k<ls.length by omega),Option.getD_some]
   by_cases h1:(stepR (loadK ls k).1 (ls[k]'(by omega))).2=0
   ·rw[if_pos h1]
    have hl:=hm _ (List.getElem_mem (show k<ls.length by omega));generalize (ls[k]'(by omega))=l at *;generalize (loadK ls k).1=r at *;obtain⟨e1,e2,e3,e4⟩:=stepR_zero (show stepR r l=((stepR r l).1,0) by rw[← h1]);rw[e2];have hc:=chgR_zero e1;generalize (chgR l).1=c at *;refine⟨putL_rise ih.rise _ _,e3,by show (r.changes++[c]).length≤48;simp<;>omega,by show (r.changes++[c]).length≤k+1;have:=ih.few;simp<;>omega,fun x hx=>?_,fun x hx=>?_⟩
    ·rcases putL_mem hx with h|⟨rfl,_⟩
     ·exact ih.recs x h
     ·exact⟨by simp only;omega,by simp only;omega⟩
    ·rcases List.mem_append.1 hx with h|h
     ·exact ih.chgs x h
     ·obtain rfl:x=c:=by simpa using h
      have hd:=hc.1;unfold changeB dayB inB at hd;simp only[Bool.and_eq_true,decide_eq_true_eq] at hd;exact⟨by omega,by omega,by omega,by constructor<;>omega⟩
   ·rw[if_neg h1];exact hz _
  ·rw[if_neg h0];exact⟨ih.rise,ih.rcs,ih.chg,Nat.le_succ_of_le ih.few,ih.recs,ih.chgs⟩
theorem found {c:DChange} (hc:changeB c=true) (hv:eqS (valOf r.records c.key) c.old_=true):eqS c.new_ emptyS=true→∃ (i:Nat) (hi:i<r.records.length),eqS r.records[i].key c.key=true:=by
 intro hn
 by_cases h:r.records.any (fun x=>eqS x.key c.key)=true
 ·obtain⟨x,hx,e⟩:=List.any_eq_true.1 h
  obtain⟨i,hi,rfl⟩:=List.mem_iff_getElem.1 hx;exact⟨i,hi,e⟩
 ·exfalso
  rw[valOf_none (Bool.eq_false_iff.2 h)] at hv;unfold changeB at hc;simp only[Bool.and_eq_true] at hc;have h1:=hc.2.2.2.2;rw[← eqS_iff.1 hv,eqS_iff.1 hn,eqS_refl] at h1
  cases h1
end
def LoadP (x:DRegister × Int × Int) (w:World) (e:Ending) (w':World):Prop :=
 ∃ a0 c0 a1 c1 fp,e=.returned (.tuple #[.agg #[.slice a0 x.1.records.length c0,.slice a1 x.1.changes.length c1],.int .i64 x.2.1,.int .i64 x.2.2])∧Below w.heap.size w w'∧OwnV w' x.1.tr [.slice a0 x.1.records.length c0,.slice a1 x.1.changes.length c1] fp∧In w.heap.size w'.heap.size fp
theorem LoadP.zero {x:DRegister × Int × Int} {w w':World} {e:Ending} {n c:Int} (hx:x=(zReg,n,c)) (he:e=.returned (.tuple #[.agg #[.slice none 0 0,.slice none 0 0],.int .i64 n,.int .i64 c])) (hb:Below w.heap.size w w'):LoadP x w e w':=by
 subst hx;exact⟨none,0,none,0,[],he,hb,ownV_nilReg w',In.nil⟩
end Go.Proofs.YtmkkiglcpedkiaaGreatDoor
namespace Go.Proofs.YtmkkiglcpedkiaaGreatDoor
open Go.RowKit
theorem itoa_free {v:Int} {c:UInt8} (h1:c≠45) (h2:isD c=false):c ∉ Go.Lib.itoa v:=fun h=>by
 rcases itoa_mem h with e|e
 ·exact h1 e
 ·rw[h2] at e;cases e
theorem name_byte {s:ByteArray} (h:nameB s=true) {c:UInt8} (hc:c ∈ bl s):nameN (c.toNat:Int)=true:=by
 unfold nameB at h;simp only[Bool.and_eq_true,List.all_eq_true] at h;exact h.2.2.2 (c.toNat:Int) (List.mem_map.2 ⟨c,hc,rfl⟩)
theorem value_byte {s:ByteArray} (h:(eqS s emptyS || valueB s)=true) {c:UInt8} (hc:c ∈ bl s):printN (c.toNat:Int)=true:=by
 rw[Bool.or_eq_true] at h
 rcases h with h|h
 ·have e:=eqS_iff.1 h
  rw[e] at hc
  cases hc
 ·unfold valueB at h
  rw[Bool.and_eq_true,List.all_eq_true] at h;exact h.1 (c.toNat:Int) (List.mem_map.2 ⟨c,hc,rfl⟩)
theorem changeB_parts {c:DChange} (h:changeB c=true):(0≤c.day∧c.day≤99999)∧nameB c.key=true∧(eqS c.old_ emptyS || valueB c.old_)=true∧(eqS c.new_ emptyS || valueB c.new_)=true:=by
 unfold changeB dayB inB at h;simp only[Bool.and_eq_true,decide_eq_true_eq] at h;exact⟨h.1,h.2.1,h.2.2.1,h.2.2.2.1⟩
theorem body_eq (c:DChange):bodyL c=(Go.Lib.itoa c.day++32::(bl c.key++32::(Go.Lib.itoa (c.old_.size:Int)++32::(Go.Lib.itoa (c.new_.size:Int)++[32]))))++(bl c.old_++bl c.new_):=by
 unfold bodyL;simp[Go.Lib.join_cons,Go.Lib.joinTail]
theorem body_split {c:DChange} (h:changeB c=true):splitN 32 4 (bodyL c) = [Go.Lib.itoa c.day,bl c.key,Go.Lib.itoa (c.old_.size:Int),Go.Lib.itoa (c.new_.size:Int),bl c.old_++bl c.new_]:=by
 rw[body_eq];have hk:(32:UInt8) ∉ bl c.key:=fun hm=>absurd (name_byte (changeB_parts h).2.1 hm) (by decide)
 refine splitN_app 32 _ _ [Go.Lib.itoa c.day,bl c.key,Go.Lib.itoa (c.old_.size:Int),Go.Lib.itoa (c.new_.size:Int)] 4 ?_ rfl;rw[splitC_app _ _ _ (itoa_no32 _),splitC_app _ _ _ hk,splitC_app _ _ _ (itoa_no32 _),splitC_end,splitC_plain _ _ (itoa_no32 _)]
 rfl
theorem line_cut (c:DChange):lastCut 32 (lineL c)=some (bodyL c,Go.Lib.itoa (crcL (bodyL c) 65535)):=lastCut_of (itoa_no32 _)
theorem chgR_line {c:DChange} (h:changeB c=true):chgR (lineL c)=(c,0):=by
 have hp:=changeB_parts h;have l1:=changeB_len h;have e:chgOf c.day (bl c.key) (bl c.old_++bl c.new_) c.old_.size=c:=by
  unfold chgOf;rw[List.take_left' (bl_len c.old_),List.drop_left' (bl_len c.old_),ofL_bl,ofL_bl,ofL_bl]
 have:=chgR_ok (line_cut c) (body_split h) (num_itoa c.day (by omega)) (num_itoa (c.old_.size:Int) (by omega)) (num_itoa (c.new_.size:Int) (by omega)) (k:=c.old_.size) (by rw[List.length_append,bl_len,bl_len];omega) (by rw[List.length_append,bl_len];omega);rw[this,e,if_pos h]
theorem line_no10 {c:DChange} (h:changeB c=true):(10:UInt8) ∉ lineL c:=fun hm=>by
 have hp:=changeB_parts h
 have hi:∀ n,(10:UInt8) ∉ Go.Lib.itoa n:=fun n=>itoa_free (by decide) (by decide)
 have hk:(10:UInt8) ∉ bl c.key:=fun hm=>absurd (name_byte hp.2.1 hm) (by decide)
 have ho:(10:UInt8) ∉ bl c.old_:=fun hm=>absurd (value_byte hp.2.2.1 hm) (by decide)
 have hn:(10:UInt8) ∉ bl c.new_:=fun hm=>absurd (value_byte hp.2.2.2 hm) (by decide)
 unfold lineL at hm
 rw[body_eq] at hm
 simp[hi,hk,ho,hn] at hm
theorem head_no10 (n:Int):(10:UInt8) ∉ headL n:=fun hm=>by
 unfold headL REG at hm
 have hi:∀ n,(10:UInt8) ∉ Go.Lib.itoa n:=fun n=>itoa_free (by decide) (by decide)
 simp[hi] at hm
theorem lines_split (cs:List DChange) (h:∀ c ∈ cs,changeB c=true):splitC 10 (cs.flatMap fun x=>lineL x++[10])=cs.map lineL++[[]]:=by
 induction cs with
 | nil=>rfl
 | cons c cs ih =>
  rw[List.flatMap_cons,List.append_assoc,List.singleton_append,splitC_app _ _ _ (line_no10 (h c (by simp))),ih (fun x hx=>h x (by simp[hx]))]
  rfl
theorem reg_changes {r:DRegister} (h:regB r=true):∃ l,repN r.changes r.changes.length=some l∧l=r.records∧(∀ c ∈ r.changes,changeB c=true)∧r.changes.length≤48:=by
 have hl:=(regB_state h).2.2.2;unfold regB at h;rw[Bool.and_eq_true] at h
 cases hr:repN r.changes r.changes.length with
 | none=>rw[hr] at h;cases h.2
 | some l =>
  rw[hr] at h;obtain⟨_,h2,_⟩:=repN_spec _ l hr;refine⟨l,rfl,sameRs_iff.1 h.2,fun c hc=>?_,hl⟩;obtain⟨i,hi,rfl⟩:=List.getElem_of_mem hc;exact upOk_change hi (h2 i hi).2
theorem text_parts {r:DRegister} (h:∀ c ∈ r.changes,changeB c=true):∃ t,textK r r.changes.length=t++[10]∧splitC 10 t=headL (r.changes.length:Int)::r.changes.map lineL:=by
 have hs:splitC 10 (textK r r.changes.length)=(headL (r.changes.length:Int)::r.changes.map lineL)++[[]]:=by
  unfold textK;rw[List.take_length,splitC_app _ _ _ (head_no10 _),lines_split _ h]
  rfl
 obtain⟨t,ht⟩:=splitC_last 10 _ _ hs (by simp);refine⟨t,ht,?_⟩;rw[ht,splitC_end] at hs;exact List.append_cancel_right hs
theorem linesR_end (t:List UInt8):linesR (t++[10])=linesT t:=by
 unfold linesR;rw[if_pos (by simp)];simp
theorem lines_text {r:DRegister} (h:regB r=true):linesR (textK r r.changes.length)=(r.changes.map lineL,0):=by
 obtain⟨l,_,_,hc,hn⟩:=reg_changes h;obtain⟨t,ht,hs⟩:=text_parts hc;rw[ht,linesR_end];unfold linesT;rw[hs,List.headD_cons,(headR_iff _ (r.changes.length:Int) (by omega) (by omega)).1 rfl];simp only[List.length_cons,List.length_map,List.tail_cons];rw[if_neg (by omega),if_neg (by omega)]
theorem load_at (cs:List DChange) (hn:cs.length≤48):∀ (k:Nat) (l:List DRecord),k≤cs.length→repN cs k=some l→loadK (cs.map lineL) k=(⟨l,cs.take k⟩,0,0):=by
 intro k
 induction k with
 | zero =>
  intro l _ h;have:l = []:=by unfold repN at h;injection h with h;exact h.symm
  subst this
  rfl
 | succ k ih =>
  intro l hk h;unfold repN at h
  cases h1:repN cs k with
  | none=>rw[h1] at h;cases h
  | some m =>
   rw[h1,List.getElem?_eq_getElem (show k<cs.length by omega)] at h;simp only at h
   split at h
   ·rename_i hu
    obtain⟨p1,rfl,p3⟩:=patS_some h;have hc:=upOk_change (show k<cs.length by omega) hu;have e:=chgR_line hc;refine loadK_go (ih m (by omega) h1) (by rw[List.length_map];omega) ?_;rw[List.getElem_map];have hlat:laterB ⟨m,cs.take k⟩ cs[k].day=false:=by
     unfold laterB
     by_cases h0:k=0
     ·subst h0;rfl
     ·rw[upOk_pos (by omega) (by omega),Bool.and_eq_true] at hu
      have hd:=hu.2;unfold dayLe at hd;rw[decide_eq_true_eq] at hd;rw[List.getLast?_eq_getElem?,List.length_take,Nat.min_eq_left (by omega),List.getElem?_take_of_lt (by omega),List.getElem?_eq_getElem (show k-1<cs.length by omega)];exact decide_eq_false (by omega)
    rw[stepR_with (by rw[e]) (by rw[e];exact p1) (by rw[e];exact hlat),e];unfold withR;rw[if_neg (by have:=p3;dsimp only;omega),if_neg (by rw[List.length_take];omega)];unfold wReg;rw[List.take_succ_eq_append_getElem (show k<cs.length by omega)]
   ·cases h
theorem load_text {r:DRegister} (h:regB r=true):loadR (textK r r.changes.length)=(r,0,0):=by
 obtain⟨l,hr,he,hc,hn⟩:=reg_changes h;unfold loadR;rw[lines_text h];simp only[List.length_map,if_true];rw[load_at _ hn _ l (Nat.le_refl _) hr,he,List.take_length]
theorem dmg_none (cs:List DChange) (h:∀ c ∈ cs,changeB c=true):∀ k,k≤cs.length→dmgK (cs.map lineL) k = []:=by
 intro k
 induction k with
 | zero=>intro _;rfl
 | succ k ih =>
  intro hk;rw[dmgK,ih (by omega),List.getElem?_eq_getElem (by rw[List.length_map];omega),Option.getD_some,List.getElem_map,chgR_line (h _ (List.getElem_mem _))]
  rfl
theorem dmg_text {r:DRegister} (h:regB r=true):dmgR (textK r r.changes.length)=([],0):=by
 obtain⟨l,hr,he,hc,hn⟩:=reg_changes h;unfold dmgR;rw[lines_text h];simp only[List.length_map,if_true];rw[dmg_none _ hc _ (Nat.le_refl _)]
end Go.Proofs.YtmkkiglcpedkiaaGreatDoor
