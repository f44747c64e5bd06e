/- Texts that are divided at a byte, lists of numbers as texts. Plain lemmas; no program. -/
import Derived.Lib.ItoaLen
import Derived.Lib.ParseIntBTie
import Derived.Lib.SplitLaws
import Derived.Lib.Join
set_option linter.unusedVariables false
set_option linter.unusedSimpArgs false
namespace Go.Proofs.YtmkkiglcpedkiaaGreatDoor
def isD (c:UInt8):Bool:=decide (48≤c.toNat)&&decide (c.toNat≤57)
theorem isD_iff {c:UInt8} : isD c=true↔48≤c.toNat∧c.toNat≤57:=by unfold isD;simp
def stepD (n:Nat) (c:UInt8):Nat:=10*n+(c.toNat-48)
def valD (l:List UInt8):Nat:=l.foldl stepD 0
def goodD (d:List UInt8):Bool:=decide (d≠[])&&decide (d.length≤18)&&d.all isD
def headOk (d:List UInt8):Bool:=decide (d.head? = some 48→d.length=1)
theorem dig_of (k:Nat) (h:k<10):(UInt8.ofNat (48+k)).toNat=48+k:=by
 rw[UInt8.toNat_ofNat'];omega
theorem dig_back {c:UInt8} (h:isD c=true):UInt8.ofNat (48+(c.toNat-48))=c:=by
 have ⟨h1,h2⟩:=isD_iff.1 h;rw[show 48+(c.toNat-48)=c.toNat by omega];exact UInt8.ofNat_toNat
theorem valD_snoc (d:List UInt8) (c:UInt8):valD (d++[c])=10*valD d+(c.toNat-48):=by
 unfold valD;rw[List.foldl_append];rfl
theorem valD_single (c:UInt8):valD [c]=c.toNat-48:=by unfold valD stepD;simp
theorem foldl_ge (d:List UInt8):∀ n,n≤d.foldl stepD n:=by
 induction d with
 | nil=>intro n;exact Nat.le_refl _
 | cons c d ih=>intro n;rw[List.foldl_cons];refine Nat.le_trans ?_ (ih _);unfold stepD;omega
theorem valD_pos {d:List UInt8} (hd:d.all isD=true) (hne:d≠[]) (h0:d.head?≠some 48):1≤valD d:=by
 cases d with
 | nil=>exact absurd rfl hne
 | cons c r =>
  simp only[List.all_cons,Bool.and_eq_true] at hd;have ⟨h1,h2⟩:=isD_iff.1 hd.1;have hc:c.toNat≠48:=fun e=>h0 (by simp only[List.head?_cons,Option.some.injEq];exact UInt8.toNat_inj.1 (by rw[e];rfl))
  unfold valD;rw[List.foldl_cons];refine Nat.le_trans ?_ (foldl_ge r _);unfold stepD;omega
theorem snoc_cases (d:List UInt8):d = []∨∃ d' c,d=d'++[c]:=by
 rcases List.eq_nil_or_concat d with h|⟨d',c,h⟩
 ·exact Or.inl h
 ·exact Or.inr ⟨d',c,by simpa using h⟩
theorem decDigits_valD:∀ (k:Nat) (d:List UInt8),d.length=k→d≠[]→d.all isD=true→headOk d=true→Go.Lib.decDigits (valD d)=d:=by
 intro k
 induction k with
 | zero=>intro d hl hne;exact absurd (List.length_eq_zero_iff.1 hl) hne
 | succ k ih =>
  intro d hl hne hall hh
  rcases snoc_cases d with rfl|⟨d',c,rfl⟩
  ·exact absurd rfl hne
  ·rw[List.all_append,Bool.and_eq_true] at hall
   have hc:isD c=true:=by simpa using hall.2
   have ⟨c1,c2⟩:=isD_iff.1 hc
   by_cases he:d' = []
   ·subst he
    rw[List.nil_append,valD_single,Go.Lib.decDigits_one (by omega),dig_back hc]
   ·have hl':d'.length=k:=by simpa using hl
    have hk:1≤k:=by
     have:d'.length≠0:=fun e=>he (List.length_eq_zero_iff.1 e)
     omega
    have h48:d'.head?≠some 48:=by
     intro e;have:(d'++[c]).head? = some 48:=by rw[List.head?_append,e];rfl
     have:=of_decide_eq_true hh this;rw[hl] at this;omega
    have hh':headOk d' = true:=decide_eq_true fun e=>absurd e h48
    have hv:=valD_pos hall.1 he h48;have ihd:=ih d' hl' he hall.1 hh';rw[valD_snoc,Go.Lib.decDigits,dif_neg (by omega)];rw[show (10*valD d' + (c.toNat-48)) / 10=valD d' by omega,show (10*valD d' + (c.toNat-48)) % 10=c.toNat-48 by omega,ihd,dig_back hc]
theorem decDigits_all (u:Nat):(Go.Lib.decDigits u).all isD=true:=by
 induction u using Nat.strongRecOn with
 | _ u ih =>
  by_cases h:u<10
  ·rw[Go.Lib.decDigits_one h]
   simp only[List.all_cons,List.all_nil,Bool.and_true];rw[isD_iff,dig_of u h];omega
  ·rw[Go.Lib.decDigits,dif_neg h,List.all_append,ih (u / 10) (by omega)]
   simp only[List.all_cons,List.all_nil,Bool.and_true,Bool.true_and];rw[isD_iff,dig_of (u % 10) (by omega)];omega
theorem decDigits_ne (u:Nat):Go.Lib.decDigits u≠[]:=by
 intro e;have:=Go.Lib.decDigits_length u;have h1:=Go.Lib.nDigits_pos u;rw[e] at this;simp at this;omega
theorem valD_decDigits (u:Nat):valD (Go.Lib.decDigits u)=u:=by
 induction u using Nat.strongRecOn with
 | _ u ih =>
  by_cases h:u<10
  ·rw[Go.Lib.decDigits_one h,valD_single,dig_of u h];omega
  ·rw[Go.Lib.decDigits,dif_neg h,valD_snoc,ih (u / 10) (by omega),dig_of (u % 10) (by omega)];omega
theorem decDigits_head (u:Nat) (h:1≤u):(Go.Lib.decDigits u).head?≠some 48:=by
 induction u using Nat.strongRecOn with
 | _ u ih =>
  by_cases h10:u<10
  ·rw[Go.Lib.decDigits_one h10]
   simp only[List.head?_cons,ne_eq,Option.some.injEq];intro e;have:=congrArg UInt8.toNat e;rw[dig_of u h10] at this;have e48:(48:UInt8).toNat=48:=rfl;omega
  ·rw[Go.Lib.decDigits,dif_neg h10,List.head?_append]
   have:=ih (u / 10) (by omega) (by omega)
   cases hh:(Go.Lib.decDigits (u / 10)).head? with
   | none=>rw[List.head?_eq_none_iff] at hh;exact absurd hh (decDigits_ne _)
   | some c=>rw[hh] at this;simpa using this
theorem decDigits_headOk (u:Nat):headOk (Go.Lib.decDigits u)=true:=by
 by_cases h:1≤u
 ·exact decide_eq_true fun e=>absurd e (decDigits_head u h)
 ·obtain rfl:u=0:=by omega
  exact decide_eq_true fun _=>by rw[Go.Lib.decDigits_one (by omega)];rfl
theorem decDigits_len18 (u:Nat):(Go.Lib.decDigits u).length≤18↔u<10 ^ 18:=by
 rw[Go.Lib.decDigits_length]
 constructor
 ·intro h
  exact Nat.lt_of_lt_of_le (Go.Lib.lt_pow_nDigits u) (Nat.pow_le_pow_right (by omega) h)
 ·intro h
  by_cases hle:Go.Lib.nDigits u≤18
  ·exact hle
  ·exfalso
   have key:∀ (k u:Nat),k<Go.Lib.nDigits u→u≠0→10 ^ k≤u:=by
    intro k
    induction k with
    | zero=>intro u _ h0;have:=Nat.pos_of_ne_zero h0;simp<;>omega
    | succ k ih =>
     intro u hk h0
     by_cases h10:u<10
     ·rw[Go.Lib.nDigits_small h10] at hk;omega
     ·rw[Go.Lib.nDigits_big h10] at hk
      have:=ih (u / 10) (by omega) (by omega);rw[Nat.pow_succ];omega
   by_cases h0:u=0
   ·subst h0
    rw[Go.Lib.nDigits_small (by omega)] at hle;omega
   ·have:=key 18 u (by omega) h0
    omega
def num (l:List UInt8):Option Int :=
 match l with
 | []=>none
 | c::r =>
  if c=45 then (if goodD r&&decide (r.head?≠some 48) then some (-(valD r:Int)) else none)
  else (if goodD (c::r)&&headOk (c::r) then some (valD (c::r):Int) else none)
theorem good_parts {d:List UInt8} (h:goodD d=true):d≠[]∧d.length≤18∧d.all isD=true:=by
 unfold goodD at h;simp only[Bool.and_eq_true,decide_eq_true_eq] at h;exact⟨h.1.1,h.1.2,h.2⟩
theorem decDigits_good {u:Nat} (h:u<10 ^ 18):goodD (Go.Lib.decDigits u)=true:=by
 unfold goodD;rw[decide_eq_true (decDigits_ne u),decide_eq_true ((decDigits_len18 u).2 h),decDigits_all]
 rfl
theorem decDigits_not45 (u:Nat):∃ c r,Go.Lib.decDigits u=c::r∧c≠45:=by
 cases h:Go.Lib.decDigits u with
 | nil=>exact absurd h (decDigits_ne u)
 | cons c r =>
  refine⟨c,r,rfl,fun e=>?_⟩;have:=decDigits_all u;rw[h,e] at this;simp[isD] at this
theorem num_itoa (v:Int) (h:v.natAbs<10 ^ 18):num (Go.Lib.itoa v)=some v:=by
 unfold Go.Lib.itoa
 by_cases hv:v<0
 ·rw[if_pos hv]
  unfold num;simp only[if_true];rw[decDigits_good h,decide_eq_true (decDigits_head v.natAbs (by omega)),valD_decDigits];simp only[Bool.and_self,if_true,Option.some.injEq];omega
 ·rw[if_neg hv]
  obtain⟨c,r,e,hc⟩:=decDigits_not45 v.toNat;have hg:=decDigits_good (u:=v.toNat) (by omega);have hh:=decDigits_headOk v.toNat;have hval:=valD_decDigits v.toNat;rw[e] at hg hh hval ⊢;unfold num;simp only[hc,if_false];rw[hg,hh,hval];simp only[Bool.and_self,if_true,Option.some.injEq];omega
theorem valD_lt {d:List UInt8} (hl:d.length≤18) (hne:d≠[]) (hall:d.all isD=true) (hh:headOk d=true):valD d<10 ^ 18:=by
 rw[← decDigits_len18,decDigits_valD d.length d rfl hne hall hh];exact hl
theorem num_some {l:List UInt8} {v:Int} (h:num l=some v):l=Go.Lib.itoa v∧v.natAbs<10 ^ 18:=by
 cases l with
 | nil=>simp[num] at h
 | cons c r =>
  unfold num at h
  by_cases hc:c=45
  ·subst hc
   simp only[if_true] at h
   by_cases hg:(goodD r&&decide (r.head?≠some 48))=true
   ·rw[if_pos hg] at h
    rw[Bool.and_eq_true] at hg;obtain⟨hne,hl,hall⟩:=good_parts hg.1;have h48:=of_decide_eq_true hg.2;have hh:headOk r=true:=decide_eq_true fun e=>absurd e h48
    have hp:=valD_pos hall hne h48;have hlt:=valD_lt hl hne hall hh;have hd:=decDigits_valD r.length r rfl hne hall hh;have hv:v = -(valD r:Int):=(Option.some.inj h).symm;subst hv;refine⟨?_,by omega⟩;unfold Go.Lib.itoa;rw[if_pos (by omega),show (-(valD r:Int)).natAbs=valD r by omega,hd]
   ·rw[if_neg hg] at h;cases h
  ·simp only[hc,if_false] at h
   by_cases hg:(goodD (c::r)&&headOk (c::r))=true
   ·rw[if_pos hg] at h
    rw[Bool.and_eq_true] at hg;obtain⟨hne,hl,hall⟩:=good_parts hg.1;have hlt:=valD_lt hl hne hall hg.2;have hd:=decDigits_valD _ (c::r) rfl hne hall hg.2;have hv:v=(valD (c::r):Int):=(Option.some.inj h).symm;subst hv;refine⟨?_,by omega⟩;unfold Go.Lib.itoa;rw[if_neg (by omega),Int.toNat_natCast,hd]
   ·rw[if_neg hg] at h;cases h
theorem parseM_digits (d:List UInt8):∀ acc:Nat,d.all isD=true→(∀ k,k≤d.length→(d.take k).foldl stepD acc<10 ^ 18)→Go.Lib.parseUintM (2 ^ 64-1) acc d=.ok (d.foldl stepD acc):=by
 induction d with
 | nil=>intro acc _ _;rfl
 | cons c r ih =>
  intro acc hall hb;simp only[List.all_cons,Bool.and_eq_true] at hall;have ⟨h1,h2⟩:=isD_iff.1 hall.1;have hb1:=hb 1 (by simp);have hb0:=hb 0 (by simp);simp only[List.take_succ_cons,List.take_zero,List.foldl_cons,List.foldl_nil] at hb1 hb0;unfold stepD at hb1;rw[Go.Lib.parseUintM,if_pos ⟨h1,h2⟩,if_neg (by omega),if_neg (by omega),List.foldl_cons,show acc*10+(c.toNat-48)=stepD acc c by unfold stepD;omega];refine ih _ hall.2 fun k hk=>?_
  have:=hb (k+1) (by simpa using hk)
  simpa using this
theorem foldl_take_le (d:List UInt8) (acc k:Nat):(d.take k).foldl stepD acc≤d.foldl stepD acc:=by
 conv=>rhs;rw[← List.take_append_drop k d,List.foldl_append]
 exact foldl_ge _ _
theorem parseB_digits {u:Nat} (h:u<10 ^ 18):Go.Lib.parseUintB 64 (Go.Lib.decDigits u)=.ok u:=by
 unfold Go.Lib.parseUintB;have hv:=valD_decDigits u;unfold valD at hv;rw[if_neg (decDigits_ne u),parseM_digits _ 0 (decDigits_all u) (fun k _=>Nat.lt_of_le_of_lt (foldl_take_le _ _ _) (by rw[hv];exact h)),hv]
theorem parse_itoa (v:Int) (h:v.natAbs<10 ^ 18):Go.Lib.parseIntB 64 (Go.Lib.itoa v)=.ok v:=by
 unfold Go.Lib.itoa
 by_cases hv:v<0
 ·rw[if_pos hv,Go.Lib.parseIntB_minus,parseB_digits h]
  show (if 2 ^ (64-1)<v.natAbs then Go.Lib.NumEnd.range else Go.Lib.NumEnd.ok (-(v.natAbs:Int)))=.ok v
  rw[if_neg (by omega)]
  congr 1;omega
 ·rw[if_neg hv]
  obtain⟨c,r,e,hc⟩:=decDigits_not45 v.toNat;have hp:=parseB_digits (u:=v.toNat) (by omega);have hall:=decDigits_all v.toNat;rw[e] at hp hall ⊢;simp only[List.all_cons,Bool.and_eq_true] at hall;have ⟨h1,h2⟩:=isD_iff.1 hall.1;rw[Go.Lib.parseIntB_plain 64 c r (by omega) (by omega),hp];show (if 2 ^ (64-1)≤v.toNat then Go.Lib.NumEnd.range else Go.Lib.NumEnd.ok (v.toNat:Int))=.ok v
  rw[if_neg (by omega)]
  congr 1;omega
def bare (l:List UInt8):List UInt8:=if l.head? = some 45 then l.drop 1 else l
theorem bare_itoa (v:Int):bare (Go.Lib.itoa v)=Go.Lib.decDigits v.natAbs:=by
 unfold Go.Lib.itoa bare
 by_cases hv:v<0
 ·rw[if_pos hv];simp
 ·rw[if_neg hv]
  obtain⟨c,r,e,hc⟩:=decDigits_not45 v.toNat;rw[show v.natAbs=v.toNat by omega,e];simp[hc]
theorem num_iff (l:List UInt8) (v:Int):(Go.Lib.parseIntB 64 l=.ok v∧(bare l).length≤18∧Go.Lib.itoa v=l)↔num l=some v:=by
 constructor
 ·rintro⟨_,hl,rfl⟩
  rw[bare_itoa,decDigits_len18] at hl;exact num_itoa v hl
 ·intro h
  obtain⟨rfl,hb⟩:=num_some h;exact⟨parse_itoa v hb,by rw[bare_itoa,decDigits_len18];exact hb,rfl⟩
theorem itoa_mem {v:Int} {c:UInt8} (h:c ∈ Go.Lib.itoa v):c=45∨isD c=true:=by
 have hd:∀ u,c ∈ Go.Lib.decDigits u→isD c=true:=fun u hu=>List.all_eq_true.1 (decDigits_all u) c hu
 unfold Go.Lib.itoa at h
 split at h
 ·rcases List.mem_cons.1 h with h|h
  ·exact Or.inl h
  ·exact Or.inr (hd _ h)
 ·exact Or.inr (hd _ h)
def onto (b:UInt8):List (List UInt8)→List (List UInt8)
 | []=>[[b]]
 | p::ps=>(b::p)::ps
def splitC (c:UInt8):List UInt8→List (List UInt8)
 | []=>[[]]
 | b::l=>if b=c then []::splitC c l else onto b (splitC c l)
def splitN (c:UInt8):Nat→List UInt8→List (List UInt8)
 | 0,l=>[l]
 | _+1,[]=>[[]]
 | k+1,b::l=>if b=c then []::splitN c k l else onto b (splitN c (k+1) l)
theorem onto_len (b:UInt8) (ps:List (List UInt8)) (h:ps≠[]):(onto b ps).length=ps.length:=by
 cases ps with
 | nil=>exact absurd rfl h
 | cons p ps=>rfl
theorem onto_ne (b:UInt8) (ps:List (List UInt8)):onto b ps≠[]:=by cases ps<;>simp[onto]
theorem splitC_ne (c:UInt8) (l:List UInt8):splitC c l≠[]:=by
 cases l with
 | nil=>simp[splitC]
 | cons b l=>rw[splitC];split;simp;exact onto_ne _ _
theorem splitC_len (c:UInt8) (l:List UInt8):(splitC c l).length=l.count c+1:=by
 induction l with
 | nil=>rfl
 | cons b l ih =>
  rw[splitC]
  by_cases h:b=c
  ·subst h;rw[if_pos rfl,List.length_cons,ih,List.count_cons_self]
  ·rw[if_neg h,onto_len _ _ (splitC_ne _ _),ih,List.count_cons_of_ne h]
theorem join_onto (b c:UInt8) (ps:List (List UInt8)) (h:ps≠[]):Go.Lib.join (onto b ps) [c]=b::Go.Lib.join ps [c]:=by
 cases ps with
 | nil=>exact absurd rfl h
 | cons p ps=>rw[onto,Go.Lib.join_cons,Go.Lib.join_cons];rfl
theorem join_nilcons (c:UInt8) (ps:List (List UInt8)) (h:ps≠[]):Go.Lib.join ([]::ps) [c]=c::Go.Lib.join ps [c]:=by
 cases ps with
 | nil=>exact absurd rfl h
 | cons p ps=>rw[Go.Lib.join_cons,Go.Lib.join_cons];simp[Go.Lib.joinTail]
theorem join_splitC (c:UInt8) (l:List UInt8):Go.Lib.join (splitC c l) [c]=l:=by
 induction l with
 | nil=>rw[splitC,Go.Lib.join_one]
 | cons b l ih =>
  rw[splitC]
  by_cases h:b=c
  ·subst h;rw[if_pos rfl,join_nilcons _ _ (splitC_ne _ _),ih]
  ·rw[if_neg h,join_onto _ _ _ (splitC_ne _ _),ih]
theorem splitC_plain (c:UInt8) (l:List UInt8) (h:c ∉ l):splitC c l = [l]:=by
 induction l with
 | nil=>rfl
 | cons b l ih =>
  rw[splitC,if_neg (fun e=>h (by simp[e])),ih (fun e=>h (by simp[e]))]
  rfl
theorem splitC_app (c:UInt8) (p l:List UInt8) (h:c ∉ p):splitC c (p++c::l)=p::splitC c l:=by
 induction p with
 | nil=>rw[List.nil_append,splitC,if_pos rfl]
 | cons b p ih =>
  rw[List.cons_append,splitC,if_neg (fun e=>h (by simp[e])),ih (fun e=>h (by simp[e]))]
  rfl
theorem splitN_ne (c:UInt8) (k:Nat) (l:List UInt8):splitN c k l≠[]:=by
 cases k with
 | zero=>simp[splitN]
 | succ k =>
  cases l with
  | nil=>simp[splitN]
  | cons b l=>rw[splitN];split;simp;exact onto_ne _ _
theorem splitN_full (c:UInt8) (l:List UInt8):∀ k,l.count c≤k→splitN c k l=splitC c l:=by
 induction l with
 | nil=>intro k _;cases k<;>rfl
 | cons b l ih =>
  intro k hk
  by_cases h:b=c
  ·subst h
   rw[List.count_cons_self] at hk;obtain⟨k,rfl⟩:∃ j,k=j+1:=⟨k-1,by omega⟩
   rw[splitN,if_pos rfl,splitC,if_pos rfl,ih k (by omega)]
  ·rw[List.count_cons_of_ne h] at hk
   cases k with
   | zero =>
    have h0:c ∉ b::l:=by
     rw[List.mem_cons];rintro (e|e)
     ·exact h e.symm
     ·exact absurd (List.count_pos_iff.2 e) (by omega)
    rw[splitN,splitC_plain _ _ h0]
   | succ k=>rw[splitN,if_neg h,splitC,if_neg h,ih (k+1) hk]
theorem index_cons_one (b c:UInt8) (l:List UInt8):Go.Lib.index (b::l) [c]=if b=c then 0 else if Go.Lib.index l [c] = -1 then -1 else Go.Lib.index l [c]+1:=by
 rw[Go.Lib.index]
 by_cases h:b=c
 ·subst h;simp[List.isPrefixOf]
 ·have hp:([c]:List UInt8).isPrefixOf (b::l)=false:=by simp[List.isPrefixOf,Ne.symm h]
  rw[hp,if_neg h];simp
theorem splitK_eq (c:UInt8) (l:List UInt8):∀ k,Go.Lib.splitK [c] 0 k l=splitN c k l:=by
 induction l with
 | nil =>
  intro k
  cases k with
  | zero=>rfl
  | succ k=>rw[Go.Lib.splitK,splitN];simp[Go.Lib.index]
 | cons b l ih =>
  intro k
  cases k with
  | zero=>rfl
  | succ k =>
   rw[Go.Lib.splitK,splitN,index_cons_one]
   by_cases h:b=c
   ·simp only[h,if_true]
    rw[← ih k];simp
   ·simp only[h,if_false]
    have ihk:=ih (k+1);rw[Go.Lib.splitK] at ihk;rw[← ihk]
    by_cases hm:Go.Lib.index l [c] = -1
    ·simp[hm,onto]
    ·have hge:=Go.Lib.index_ge l [c]
     obtain⟨j,hj⟩:∃ j:Nat,Go.Lib.index l [c]=j:=⟨(Go.Lib.index l [c]).toNat,by omega⟩
     simp only[hj];have e1:¬ ((j:Int) = -1):=by omega
     have e2:¬ ((j:Int)+1 = -1):=by omega
     have e3:((j:Int)+1).toNat=j+1:=by omega
     simp[e1,e2,e3,onto]
end Go.Proofs.YtmkkiglcpedkiaaGreatDoor
