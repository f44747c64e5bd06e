/- Texts that are divided at a byte, lists of numbers as texts. Plain lemmas; no program. -/
import Derived.Test.YtpodllefipleiaaGreatDoorTx0
set_option linter.unusedVariables false
set_option linter.unusedSimpArgs false
namespace Go.Proofs.YtpodllefipleiaaGreatDoor
def onto (b:UInt8):List (List UInt8)→List (List UInt8)
 | []=>[[b]]
 | p::ps=>(b::p)::ps
def zar (c:UInt8):List UInt8→List (List UInt8)
 | []=>[[]]
 | b::l=>if b=c then []::zar c l else onto b (zar c l)
def zau (c:UInt8):Nat→List UInt8→List (List UInt8)
 | 0,l=>[l]
 | _+1,[]=>[[]]
 | k+1,b::l=>if b=c then []::zau c k l else onto b (zau c (k+1) l)
theorem onto_len (b:UInt8) (ps:List (List UInt8)) (h:ps≠[]):(onto b ps).length=ps.length:=by
 cases ps with
 | nil=>exact absurd rfl h
 | cons p ps=>rfl
theorem onto_ne (b:UInt8) (ps:List (List UInt8)):onto b ps≠[]:=by cases ps<;>simp[onto]
theorem splitC_ne (c:UInt8) (l:List UInt8):zar c l≠[]:=by
 cases l with
 | nil=>simp[zar]
 | cons b l=>rw[zar];split;simp;exact onto_ne _ _
theorem splitC_len (c:UInt8) (l:List UInt8):(zar c l).length=l.count c+1:=by
 induction l with
 | nil=>rfl
 | cons b l ih =>
  rw[zar]
  by_cases h:b=c
  ·subst h;rw[if_pos rfl,List.length_cons,ih,List.count_cons_self]
  ·rw[if_neg h,onto_len _ _ (splitC_ne _ _),ih,List.count_cons_of_ne h]
theorem join_onto (b c:UInt8) (ps:List (List UInt8)) (h:ps≠[]):Go.Lib.join (onto b ps) [c]=b::Go.Lib.join ps [c]:=by
 cases ps with
 | nil=>exact absurd rfl h
 | cons p ps=>rw[onto,Go.Lib.join_cons,Go.Lib.join_cons];rfl
theorem join_nilcons (c:UInt8) (ps:List (List UInt8)) (h:ps≠[]):Go.Lib.join ([]::ps) [c]=c::Go.Lib.join ps [c]:=by
 cases ps with
 | nil=>exact absurd rfl h
 | cons p ps=>rw[Go.Lib.join_cons,Go.Lib.join_cons];simp[Go.Lib.joinTail]
theorem join_splitC (c:UInt8) (l:List UInt8):Go.Lib.join (zar c l) [c]=l:=by
 induction l with
 | nil=>rw[zar,Go.Lib.join_one]
 | cons b l ih =>
  rw[zar]
  by_cases h:b=c
  ·subst h;rw[if_pos rfl,join_nilcons _ _ (splitC_ne _ _),ih]
  ·rw[if_neg h,join_onto _ _ _ (splitC_ne _ _),ih]
theorem splitC_plain (c:UInt8) (l:List UInt8) (h:c ∉ l):zar c l = [l]:=by
 induction l with
 | nil=>rfl
 | cons b l ih =>
  rw[zar,if_neg (fun e=>h (by simp[e])),ih (fun e=>h (by simp[e]))]
  rfl
theorem splitC_app (c:UInt8) (p l:List UInt8) (h:c ∉ p):zar c (p++c::l)=p::zar c l:=by
 induction p with
 | nil=>rw[List.nil_append,zar,if_pos rfl]
 | cons b p ih =>
  rw[List.cons_append,zar,if_neg (fun e=>h (by simp[e])),ih (fun e=>h (by simp[e]))]
  rfl
theorem splitN_ne (c:UInt8) (k:Nat) (l:List UInt8):zau c k l≠[]:=by
 cases k with
 | zero=>simp[zau]
 | succ k =>
  cases l with
  | nil=>simp[zau]
  | cons b l=>rw[zau];split;simp;exact onto_ne _ _
theorem zbr (c:UInt8) (l:List UInt8):∀ k,l.count c≤k→zau c k l=zar c l:=by
 induction l with
 | nil=>intro k _;cases k<;>rfl
 | cons b l ih =>
  intro k hk
  by_cases h:b=c
  ·subst h
   rw[List.count_cons_self] at hk;obtain⟨k,rfl⟩:∃ j,k=j+1:=⟨k-1,by omega⟩
   rw[zau,if_pos rfl,zar,if_pos rfl,ih k (by omega)]
  ·rw[List.count_cons_of_ne h] at hk
   cases k with
   | zero =>
    have h0:c ∉ b::l:=by
     rw[List.mem_cons];rintro (e|e)
     ·exact h e.symm
     ·exact absurd (List.count_pos_iff.2 e) (by omega)
    rw[zau,splitC_plain _ _ h0]
   | succ k=>rw[zau,if_neg h,zar,if_neg h,ih (k+1) hk]
theorem splitN_over (c:UInt8) (l:List UInt8):∀ k,k<l.count c→∃ p ∈ zau c k l,c ∈ p:=by
 induction l with
 | nil=>intro k hk;simp at hk
 | cons b l ih =>
  intro k hk
  cases k with
  | zero=>exact⟨b::l,by simp[zau],List.count_pos_iff.1 hk⟩
  | succ k =>
   by_cases h:b=c
   ·subst h
    rw[List.count_cons_self] at hk;obtain⟨p,hp,hc⟩:=ih k (by omega);exact⟨p,by rw[zau,if_pos rfl];simp[hp],hc⟩
   ·rw[List.count_cons_of_ne h] at hk
    obtain⟨p,hp,hc⟩:=ih (k+1) hk;rw[zau,if_neg h]
    cases hs:zau c (k+1) l with
    | nil=>exact absurd hs (splitN_ne _ _ _)
    | cons q qs =>
     rw[hs] at hp
     rcases List.mem_cons.1 hp with rfl|hp
     ·exact⟨b::p,by simp[onto],by simp[hc]⟩
     ·exact⟨p,by simp[onto,hp],hc⟩
theorem index_cons_one (b c:UInt8) (l:List UInt8):Go.Lib.index (b::l) [c]=if b=c then 0 else if Go.Lib.index l [c] = -1 then -1 else Go.Lib.index l [c]+1:=by
 rw[Go.Lib.index]
 by_cases h:b=c
 ·subst h;simp[List.isPrefixOf]
 ·have hp:([c]:List UInt8).isPrefixOf (b::l)=false:=by simp[List.isPrefixOf,Ne.symm h]
  rw[hp,if_neg h];simp
theorem splitK_eq (c:UInt8) (l:List UInt8):∀ k,Go.Lib.splitK [c] 0 k l=zau c k l:=by
 induction l with
 | nil =>
  intro k
  cases k with
  | zero=>rfl
  | succ k=>rw[Go.Lib.splitK,zau];simp[Go.Lib.index]
 | cons b l ih =>
  intro k
  cases k with
  | zero=>rfl
  | succ k =>
   rw[Go.Lib.splitK,zau,index_cons_one]
   by_cases h:b=c
   ·simp only[h,if_true]
    rw[← ih k];simp
   ·simp only[h,if_false]
    have ihk:=ih (k+1);rw[Go.Lib.splitK] at ihk;rw[← ihk]
    by_cases hm:Go.Lib.index l [c] = -1
    ·simp[hm,onto]
    ·have hge:=Go.Lib.index_ge l [c]
     obtain⟨j,hj⟩:∃ j:Nat,Go.Lib.index l [c]=j:=⟨(Go.Lib.index l [c]).toNat,by omega⟩
     simp only[hj];have e1:¬ ((j:Int) = -1):=by omega
     have e2:¬ ((j:Int)+1 = -1):=by omega
     have e3:((j:Int)+1).toNat=j+1:=by omega
     simp[e1,e2,e3,onto]
def nums:List (List UInt8)→Option (List Int)
 | []=>some []
 | p::ps=>match num p,nums ps with
  | some v,some vs=>some (v::vs)
  | _,_=>none
theorem zbu {p:List UInt8} {ps:List (List UInt8)} {l:List Int} (h:nums (p::ps)=some l):∃ v vs,l=v::vs∧num p=some v∧nums ps=some vs:=by
 rw[nums] at h
 cases h1:num p with
 | none=>rw[h1] at h;cases h
 | some v =>
  cases h2:nums ps with
  | none=>rw[h1,h2] at h;cases h
  | some vs=>rw[h1,h2] at h;exact⟨v,vs,(Option.some.inj h).symm,rfl,rfl⟩
theorem nums_snoc (ps:List (List UInt8)) (p:List UInt8) (l:List Int) (h:nums ps=some l):nums (ps++[p])=match num p with|some v=>some (l++[v])|none=>none:=by
 induction ps generalizing l with
 | nil =>
  obtain rfl:l = []:=(Option.some.inj h).symm;rw[List.nil_append,nums,nums]
  cases num p<;>rfl
 | cons q ps ih =>
  obtain⟨v,vs,rfl,h1,h2⟩:=zbu h;rw[List.cons_append,nums,ih vs h2,h1]
  cases num p<;>rfl
theorem nums_none {ps:List (List UInt8)} (p:List UInt8) (hp:p ∈ ps) (h:num p=none):nums ps=none:=by
 induction ps with
 | nil=>cases hp
 | cons q ps ih =>
  rcases List.mem_cons.1 hp with rfl|hp
  ·rw[nums,h]
  ·rw[nums,ih hp];cases num q<;>rfl
theorem nums_len {ps:List (List UInt8)} {l:List Int} (h:nums ps=some l):l.length=ps.length:=by
 induction ps generalizing l with
 | nil=>obtain rfl:l = []:=(Option.some.inj h).symm;rfl
 | cons p ps ih =>
  obtain⟨v,vs,rfl,_,h2⟩:=zbu h;rw[List.length_cons,List.length_cons,ih h2]
theorem nums_itoa {ps:List (List UInt8)} {l:List Int} (h:nums ps=some l):l.map Go.Lib.itoa=ps:=by
 induction ps generalizing l with
 | nil=>obtain rfl:l = []:=(Option.some.inj h).symm;rfl
 | cons p ps ih =>
  obtain⟨v,vs,rfl,h1,h2⟩:=zbu h;rw[List.map_cons,ih h2,← (num_some h1).1]
theorem num_ne {c:UInt8} (hc:c≠45) (hd:isD c=false) {p:List UInt8} (h:c ∈ p):num p=none:=by
 cases hn:num p with
 | none=>rfl
 | some v =>
  rw[(num_some hn).1] at h
  rcases itoa_mem h with e|e
  ·exact absurd e hc
  ·rw[hd] at e;cases e
def bnd (n:Int):Bool:=decide (-1000000000000≤n)&&decide (n≤1000000000000)
def zag (l:List Int):List UInt8:=if 64<l.length then [] else if l = [] then [45] else if l.all bnd then Go.Lib.join (l.map Go.Lib.itoa) [44] else []
def readL (l:List UInt8):Option (List Int):=if l = [45] then some [] else match nums (zau 44 64 l) with
 | none=>none
 | some vs=>if zag vs=l then some vs else none
def readS (l:List UInt8):Option (List Int):=if l = [45] then some [] else if 64<(zar 44 l).length then none else match nums (zar 44 l) with
 | none=>none
 | some vs=>if vs.all bnd then some vs else none
theorem readL_eq (l:List UInt8):readL l=readS l:=by
 unfold readL readS
 by_cases h0:l = [45]
 ·rw[if_pos h0,if_pos h0]
 ·rw[if_neg h0,if_neg h0]
  have hlen:=splitC_len 44 l
  by_cases h1:64<(zar 44 l).length
  ·rw[if_pos h1]
   by_cases h2:64<l.count 44
   ·obtain⟨p,hp,hc⟩:=splitN_over 44 l 64 h2
    rw[nums_none p hp (num_ne (by decide) (by decide) hc)]
   ·rw[zbr 44 l 64 (by omega)]
    cases hn:nums (zar 44 l) with
    | none=>rfl
    | some vs =>
     have hv:=nums_len hn;have ht:zag vs = []:=by unfold zag;rw[if_pos (by omega)]
     show (if zag vs=l then some vs else none)=none
     rw[ht,if_neg];rintro rfl;simp at hlen;omega
  ·rw[if_neg h1,zbr 44 l 64 (by omega)]
   cases hn:nums (zar 44 l) with
   | none=>rfl
   | some vs =>
    have hv:=nums_len hn;have hi:=nums_itoa hn;have hne:vs≠[]:=by
     rintro rfl;simp at hv;omega
    show (if zag vs=l then some vs else none)=(if vs.all bnd then some vs else none)
    by_cases hb:vs.all bnd=true
    ·rw[if_pos hb,if_pos]
     unfold zag;rw[if_neg (by omega),if_neg hne,if_pos hb,hi,join_splitC]
    ·rw[if_neg hb,if_neg]
     unfold zag;rw[if_neg (by omega),if_neg hne,if_neg hb];rintro rfl;simp[zar,nums,num] at hn
theorem readL_text {l:List UInt8} {vs:List Int} (h:readL l=some vs) (hne:vs≠[]):zag vs=l:=by
 unfold readL at h
 by_cases h0:l = [45]
 ·rw[if_pos h0] at h
  exact absurd (Option.some.inj h).symm hne
 ·rw[if_neg h0] at h
  cases hn:nums (zau 44 64 l) with
  | none=>rw[hn] at h;cases h
  | some us =>
   rw[hn] at h
   by_cases ht:zag us=l
   ·have h':(if zag us=l then some us else none)=some vs:=h
    rw[if_pos ht] at h';rw[← Option.some.inj h'];exact ht
   ·have h':(if zag us=l then some us else none)=some vs:=h
    rw[if_neg ht] at h';cases h'
def zcu (l:List UInt8) (k:Nat):Option (List Int):=match readL l with
 | none=>none
 | some vs=>if vs.length=k then some vs else none
end Go.Proofs.YtpodllefipleiaaGreatDoor
