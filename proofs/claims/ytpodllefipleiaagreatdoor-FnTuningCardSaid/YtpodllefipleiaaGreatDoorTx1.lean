/- Texts that are divided at a byte, lists of numbers as texts. Plain lemmas; no program. -/
import Derived.Test.YtpodllefipleiaaGreatDoorTx0
set_option linter.unusedVariables false
set_option linter.unusedSimpArgs false
namespace Go.Proofs.YtpodllefipleiaaGreatDoor
def onto (b:UInt8):List (List UInt8)→List (List UInt8)
 | []=>[[b]]
 | p::ps=>(b::p)::ps
def zah (c:UInt8):List UInt8→List (List UInt8)
 | []=>[[]]
 | b::l=>if b=c then []::zah c l else onto b (zah c l)
def zag (c:UInt8):Nat→List UInt8→List (List UInt8)
 | 0,l=>[l]
 | _+1,[]=>[[]]
 | k+1,b::l=>if b=c then []::zag c k l else onto b (zag c (k+1) l)
theorem onto_len (b:UInt8) (ps:List (List UInt8)) (h:ps≠[]):(onto b ps).length=ps.length:=by
 cases ps with
 | nil=>exact absurd rfl h
 | cons p ps=>rfl
theorem onto_ne (b:UInt8) (ps:List (List UInt8)):onto b ps≠[]:=by cases ps<;>simp[onto]
theorem splitC_ne (c:UInt8) (l:List UInt8):zah c l≠[]:=by
 cases l with
 | nil=>simp[zah]
 | cons b l=>rw[zah];split;simp;exact onto_ne _ _
theorem splitC_len (c:UInt8) (l:List UInt8):(zah c l).length=l.count c+1:=by
 induction l with
 | nil=>rfl
 | cons b l ih =>
  rw[zah]
  by_cases h:b=c
  ·subst h;rw[if_pos rfl,List.length_cons,ih,List.count_cons_self]
  ·rw[if_neg h,onto_len _ _ (splitC_ne _ _),ih,List.count_cons_of_ne h]
theorem join_onto (b c:UInt8) (ps:List (List UInt8)) (h:ps≠[]):Go.Lib.join (onto b ps) [c]=b::Go.Lib.join ps [c]:=by
 cases ps with
 | nil=>exact absurd rfl h
 | cons p ps=>rw[onto,Go.Lib.join_cons,Go.Lib.join_cons];rfl
theorem join_nilcons (c:UInt8) (ps:List (List UInt8)) (h:ps≠[]):Go.Lib.join ([]::ps) [c]=c::Go.Lib.join ps [c]:=by
 cases ps with
 | nil=>exact absurd rfl h
 | cons p ps=>rw[Go.Lib.join_cons,Go.Lib.join_cons];simp[Go.Lib.joinTail]
theorem zbx (c:UInt8) (l:List UInt8):Go.Lib.join (zah c l) [c]=l:=by
 induction l with
 | nil=>rw[zah,Go.Lib.join_one]
 | cons b l ih =>
  rw[zah]
  by_cases h:b=c
  ·subst h;rw[if_pos rfl,join_nilcons _ _ (splitC_ne _ _),ih]
  ·rw[if_neg h,join_onto _ _ _ (splitC_ne _ _),ih]
theorem splitC_plain (c:UInt8) (l:List UInt8) (h:c ∉ l):zah c l = [l]:=by
 induction l with
 | nil=>rfl
 | cons b l ih =>
  rw[zah,if_neg (fun e=>h (by simp[e])),ih (fun e=>h (by simp[e]))]
  rfl
theorem splitC_app (c:UInt8) (p l:List UInt8) (h:c ∉ p):zah c (p++c::l)=p::zah c l:=by
 induction p with
 | nil=>rw[List.nil_append,zah,if_pos rfl]
 | cons b p ih =>
  rw[List.cons_append,zah,if_neg (fun e=>h (by simp[e])),ih (fun e=>h (by simp[e]))]
  rfl
theorem splitN_ne (c:UInt8) (k:Nat) (l:List UInt8):zag c k l≠[]:=by
 cases k with
 | zero=>simp[zag]
 | succ k =>
  cases l with
  | nil=>simp[zag]
  | cons b l=>rw[zag];split;simp;exact onto_ne _ _
theorem zbu (c:UInt8) (l:List UInt8):∀ k,l.count c≤k→zag c k l=zah c l:=by
 induction l with
 | nil=>intro k _;cases k<;>rfl
 | cons b l ih =>
  intro k hk
  by_cases h:b=c
  ·subst h
   rw[List.count_cons_self] at hk;obtain⟨k,rfl⟩:∃ j,k=j+1:=⟨k-1,by omega⟩
   rw[zag,if_pos rfl,zah,if_pos rfl,ih k (by omega)]
  ·rw[List.count_cons_of_ne h] at hk
   cases k with
   | zero =>
    have h0:c ∉ b::l:=by
     rw[List.mem_cons];rintro (e|e)
     ·exact h e.symm
     ·exact absurd (List.count_pos_iff.2 e) (by omega)
    rw[zag,splitC_plain _ _ h0]
   | succ k=>rw[zag,if_neg h,zah,if_neg h,ih (k+1) hk]
theorem splitN_over (c:UInt8) (l:List UInt8):∀ k,k<l.count c→∃ p ∈ zag c k l,c ∈ p:=by
 induction l with
 | nil=>intro k hk;simp at hk
 | cons b l ih =>
  intro k hk
  cases k with
  | zero=>exact⟨b::l,by simp[zag],List.count_pos_iff.1 hk⟩
  | succ k =>
   by_cases h:b=c
   ·subst h
    rw[List.count_cons_self] at hk;obtain⟨p,hp,hc⟩:=ih k (by omega);exact⟨p,by rw[zag,if_pos rfl];simp[hp],hc⟩
   ·rw[List.count_cons_of_ne h] at hk
    obtain⟨p,hp,hc⟩:=ih (k+1) hk;rw[zag,if_neg h]
    cases hs:zag c (k+1) l with
    | nil=>exact absurd hs (splitN_ne _ _ _)
    | cons q qs =>
     rw[hs] at hp
     rcases List.mem_cons.1 hp with rfl|hp
     ·exact⟨b::p,by simp[onto],by simp[hc]⟩
     ·exact⟨p,by simp[onto,hp],hc⟩
theorem index_cons_one (b c:UInt8) (l:List UInt8):Go.Lib.index (b::l) [c]=if b=c then 0 else if Go.Lib.index l [c] = -1 then -1 else Go.Lib.index l [c]+1:=by
 rw[Go.Lib.index]
 by_cases h:b=c
 ·subst h;simp[List.isPrefixOf]
 ·have hp:([c]:List UInt8).isPrefixOf (b::l)=false:=by simp[List.isPrefixOf,Ne.symm h]
  rw[hp,if_neg h];simp
theorem splitK_eq (c:UInt8) (l:List UInt8):∀ k,Go.Lib.splitK [c] 0 k l=zag c k l:=by
 induction l with
 | nil =>
  intro k
  cases k with
  | zero=>rfl
  | succ k=>rw[Go.Lib.splitK,zag];simp[Go.Lib.index]
 | cons b l ih =>
  intro k
  cases k with
  | zero=>rfl
  | succ k =>
   rw[Go.Lib.splitK,zag,index_cons_one]
   by_cases h:b=c
   ·simp only[h,if_true]
    rw[← ih k];simp
   ·simp only[h,if_false]
    have ihk:=ih (k+1);rw[Go.Lib.splitK] at ihk;rw[← ihk]
    by_cases hm:Go.Lib.index l [c] = -1
    ·simp[hm,onto]
    ·have hge:=Go.Lib.index_ge l [c]
     obtain⟨j,hj⟩:∃ j:Nat,Go.Lib.index l [c]=j:=⟨(Go.Lib.index l [c]).toNat,by omega⟩
     simp only[hj];have e1:¬ ((j:Int) = -1):=by omega
     have e2:¬ ((j:Int)+1 = -1):=by omega
     have e3:((j:Int)+1).toNat=j+1:=by omega
     simp[e1,e2,e3,onto]
theorem num_ne {c:UInt8} (hc:c≠45) (hd:isD c=false) {p:List UInt8} (h:c ∈ p):num p=none:=by
 cases hn:num p with
 | none=>rfl
 | some v =>
  rw[(num_some hn).1] at h
  rcases itoa_mem h with e|e
  ·exact absurd e hc
  ·rw[hd] at e;cases e
end Go.Proofs.YtpodllefipleiaaGreatDoor
