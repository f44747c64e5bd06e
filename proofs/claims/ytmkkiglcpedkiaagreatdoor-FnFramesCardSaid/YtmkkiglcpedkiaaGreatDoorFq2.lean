/- A changed byte of a register's text is noticed. Plain. No program. -/
import Derived.Test.YtmkkiglcpedkiaaGreatDoorFq1
set_option linter.unusedVariables false
set_option linter.unusedSimpArgs false
namespace Go.Proofs.YtmkkiglcpedkiaaGreatDoor
open Go.RowKit
theorem itoa_inj {a b:Int} (ha:a.natAbs<10 ^ 18) (hb:b.natAbs<10 ^ 18) (h:Go.Lib.itoa a=Go.Lib.itoa b):a=b:=by
 have h1:=num_itoa a ha;rw[h,num_itoa b hb] at h1;exact (Option.some.inj h1).symm
theorem crc_small (l:List UInt8):(crcL l 65535).natAbs<10 ^ 18:=by have:=crc_range l;omega
theorem splitN_more (c:UInt8) (y:List UInt8):∀ (x:List UInt8) (k:Nat) (ws:List (List UInt8)) (t:List UInt8),splitN c k x=ws++[t]→ws.length=k→splitN c k (x++y)=ws++[t++y]:=by
 intro x
 induction x with
 | nil =>
  intro k ws t h hk
  cases k with
  | zero =>
   obtain rfl:ws = []:=List.eq_nil_of_length_eq_zero hk;simp[splitN] at h;subst h;simp[splitN]
  | succ k =>
   exfalso
   have:(splitN c (k+1) ([]:List UInt8)).length=1:=by simp[splitN]
   rw[h,List.length_append,List.length_singleton] at this;omega
 | cons b x ih =>
  intro k ws t h hk
  cases k with
  | zero =>
   obtain rfl:ws = []:=List.eq_nil_of_length_eq_zero hk;rw[splitN] at h;simp at h;subst h;rw[List.cons_append,splitN]
   rfl
  | succ k =>
   rw[splitN] at h;rw[List.cons_append,splitN]
   by_cases hb:b=c
   ·rw[if_pos hb] at h ⊢
    cases ws with
    | nil=>cases hk
    | cons w ws =>
     rw[List.cons_append] at h;injection h with h1 h2;rw[ih k ws t h2 (by simpa using hk),← h1]
     rfl
   ·rw[if_neg hb] at h ⊢
    cases hs:splitN c (k+1) x with
    | nil=>exact absurd hs (splitN_ne _ _ _)
    | cons p ps =>
     rw[hs] at h
     cases ws with
     | nil=>cases hk
     | cons w ws =>
      rw[onto,List.cons_append] at h;injection h with h1 h2;rw[ih (k+1) (p::ws) t (by rw[hs,h2];rfl) (by simpa using hk),← h1]
      rfl
theorem chgR_zero_form {l:List UInt8} (h:(chgR l).2=0):∃ u v p0 p1 p2 p3 t n m,lastCut 32 l=some (u,v)∧v=Go.Lib.itoa (crcL u 65535)∧splitN 32 4 u = [p0,p1,p2,p3,t]∧num p2=some n∧num p3=some m∧n+m=(t.length:Int):=by
 cases hc:lastCut 32 l with
 | none=>rw[chgR_none hc] at h;cases h
 | some p =>
  obtain⟨body,sum⟩:=p
  by_cases hs:sum=Go.Lib.itoa (crcL body 65535)
  case neg=>rw[chgR_sum hc hs] at h;cases h
  by_cases hl:(splitN 32 4 body).length=5
  case neg=>rw[chgR_len hc hs hl] at h;cases h
  obtain⟨p0,p1,p2,p3,t,hab⟩:∃ p0 p1 p2 p3 t,splitN 32 4 body = [p0,p1,p2,p3,t]:=by
   match h:splitN 32 4 body,hl with
   | [p0,p1,p2,p3,t],_=>exact⟨p0,p1,p2,p3,t,rfl⟩
  have hf:=chgR_five hc hs hab
  cases h0:num p0 with
  | none=>rw[h0] at hf;rw[hf] at h;cases h
  | some d =>
   cases h2:num p2 with
   | none=>rw[h0,h2] at hf;rw[hf] at h;cases h
   | some n =>
    cases h3:num p3 with
    | none=>rw[h0,h2,h3] at hf;rw[hf] at h;cases h
    | some m =>
     rw[h0,h2,h3] at hf;simp only at hf
     by_cases hb:0≤n∧n+m=(t.length:Int)∧n≤(t.length:Int)∧changeB (chgOf d p1 t n.toNat)=true
     ·exact⟨body,sum,p0,p1,p2,p3,t,n,m,rfl,hs,hab,h2,h3,hb.2.1⟩
     ·rw[if_neg hb] at hf;rw[hf] at h;cases h
theorem body_short {c:DChange} (h:changeB c=true) {u v:List UInt8} (e:bodyL c=u++32::v) {p0 p1 p2 p3 t:List UInt8} {n m:Int} (hp:splitN 32 4 u = [p0,p1,p2,p3,t]) (h2:num p2=some n) (h3:num p3=some m):n+m≠(t.length:Int):=by
 have hb:=body_split h;rw[e,splitN_more 32 (32::v) u 4 [p0,p1,p2,p3] t hp rfl] at hb;simp only[List.cons_append,List.nil_append,List.cons.injEq,and_true] at hb;obtain⟨_,_,e2,e3,e4⟩:=hb;have l1:=changeB_len h;rw[e2,num_itoa _ (by omega)] at h2;rw[e3,num_itoa _ (by omega)] at h3;have hl:=congrArg List.length e4;rw[List.length_append,List.length_append,List.length_cons,bl_len,bl_len] at hl;have:=Option.some.inj h2;have:=Option.some.inj h3;omega
theorem body_long {c:DChange} (h:changeB c=true) {v:List UInt8} {p0 p1 p2 p3 t:List UInt8} {n m:Int} (hp:splitN 32 4 (bodyL c++32::v) = [p0,p1,p2,p3,t]) (h2:num p2=some n) (h3:num p3=some m):n+m≠(t.length:Int):=by
 have hb:=splitN_more 32 (32::v) (bodyL c) 4 _ _ (show splitN 32 4 (bodyL c) = [Go.Lib.itoa c.day,bl c.key,Go.Lib.itoa (c.old_.size:Int),Go.Lib.itoa (c.new_.size:Int)]++[bl c.old_++bl c.new_] from body_split h) rfl;rw[hp] at hb;simp only[List.cons_append,List.nil_append,List.cons.injEq,and_true] at hb;obtain⟨_,_,e2,e3,e4⟩:=hb;have l1:=changeB_len h;rw[e2,num_itoa _ (by omega)] at h2;rw[e3,num_itoa _ (by omega)] at h3;have hl:=congrArg List.length e4;rw[List.length_append,List.length_append,List.length_cons,bl_len,bl_len] at hl;have:=Option.some.inj h2;have:=Option.some.inj h3;omega
theorem app_cases {α:Type} {x y p q:List α} {b:α} (h:x++b::y=p++q):(∃ z,p=x++b::z∧y=z++q)∨(∃ z,x=p++z∧q=z++b::y):=by
 rcases List.append_eq_append_iff.1 h with ⟨z,h1,h2⟩|⟨z,h1,h2⟩
 ·cases z with
  | nil =>
   simp at h1 h2;exact Or.inr ⟨[],by rw[h1];simp,by rw[← h2];rfl⟩
  | cons d z =>
   rw[List.cons_append] at h2;injection h2 with h3 h4;subst h3;exact Or.inl ⟨z,h1,h4⟩
 ·exact Or.inr ⟨z,h1,h2⟩
theorem line_changed {c:DChange} (h:changeB c=true) {x y:List UInt8} {b b':UInt8} (hb:b≠b') (e:lineL c=x++b::y):(chgR (x++b'::y)).2≠0:=fun h0=>by
 obtain⟨u,v,p0,p1,p2,p3,t,n,m,hc,hv,hp,h2,h3,hl⟩:=chgR_zero_form h0
 have e':x++b::y=bodyL c++32::Go.Lib.itoa (crcL (bodyL c) 65535):=e.symm
 rcases app_cases e' with ⟨z,hz1,hz2⟩|⟨z,hz1,hz2⟩
 ·
  have hcut:=lastCut_of (x:=x++b'::z) (itoa_no32 (crcL (bodyL c) 65535))
  rw[List.append_assoc,List.cons_append,← hz2,hc] at hcut
  obtain⟨rfl,rfl⟩:=Prod.mk.inj (Option.some.inj hcut)
  have:=itoa_inj (crc_small _) (crc_small _) hv
  rw[hz1] at this
  exact crc_changed x z hb this
 ·cases z with
  | nil =>
   simp at hz1 hz2
   obtain⟨rfl,rfl⟩:=hz2
   obtain⟨hu,hnv⟩:=lastCut_some hc
   rcases app_cases hu with ⟨z,hz3,hz4⟩|⟨z,hz3,hz4⟩
   ·
    exact absurd (show (32:UInt8) ∈ Go.Lib.itoa (crcL (bodyL c) 65535) by rw[hz4];simp) (itoa_no32 _)
   ·cases z with
    | nil =>
     simp at hz4
     exact absurd hz4.1 (fun e=>hb (e ▸ rfl))
    | cons d z =>
     rw[List.cons_append] at hz4
     injection hz4 with h5 h6
     subst h5
     rw[hz1] at hz3
     exact body_short h hz3 hp h2 h3 hl
  | cons d z =>
   rw[List.cons_append] at hz2
   injection hz2 with h5 h6
   subst h5
   have hyz:(32:UInt8) ∉ z∧(32:UInt8) ∉ y:=by
    have hn:=itoa_no32 (crcL (bodyL c) 65535);rw[h6] at hn;exact⟨fun hm=>hn (by simp[hm]),fun hm=>hn (by simp[hm])⟩
   by_cases hb2:b' = 32
   ·subst hb2
    have hcut:=lastCut_of (x:=x) hyz.2;rw[hc] at hcut;obtain⟨rfl,rfl⟩:=Prod.mk.inj (Option.some.inj hcut);rw[hz1] at hp;exact body_long h hp h2 h3 hl
   ·have hcut:=lastCut_of (x:=bodyL c) (y:=z++b'::y) (c:=32) (by
     intro hm
     rcases List.mem_append.1 hm with hm|hm
     ·exact hyz.1 hm
     ·rcases List.mem_cons.1 hm with hm|hm
      ·exact hb2 hm.symm
      ·exact hyz.2 hm)
    rw[show bodyL c++32::(z++b'::y)=x++b'::y by rw[hz1];simp,hc] at hcut;obtain⟨rfl,rfl⟩:=Prod.mk.inj (Option.some.inj hcut);rw[← hv] at h6;have h7:=List.append_cancel_left h6;injection h7 with h8;exact hb h8.symm
theorem load_bad {ls:List (List UInt8)} {i:Nat} (hi:i<ls.length) (hb:(chgR ls[i]).2≠0):(loadK ls ls.length).2.2≠0:=fun h=>by
 have key:∀ k,k≤ls.length→(loadK ls k).2.2=0→∀ j,j<k→(hj:j<ls.length)→(chgR ls[j]).2=0:=by
  intro k
  induction k with
  | zero=>intro _ _ j hj;omega
  | succ k ih =>
   intro hk h j hj hjl;rw[loadK] at h
   by_cases h0:(loadK ls k).2.2=0
   ·rw[if_pos h0,List.getElem?_eq_getElem (show k<ls.length by omega),Option.getD_some] at h
    by_cases hjk:j=k
    ·subst hjk
     by_cases h1:(stepR (loadK ls j).1 ls[j]).2=0
     ·exact (stepR_zero (show stepR (loadK ls j).1 ls[j]=((stepR (loadK ls j).1 ls[j]).1,0) by rw[← h1])).1
     ·rw[if_neg h1] at h;exact absurd h h1
    ·exact ih (by omega) h0 j (by omega) hjl
   ·rw[if_neg h0] at h;exact absurd h h0
 exact hb (key _ (Nat.le_refl _) h i hi hi)
theorem splitC_cat (d:UInt8) (z:List UInt8) {q:List UInt8} {B:List (List UInt8)} (hz:splitC d z=q::B):∀ (x:List UInt8) (A:List (List UInt8)) (p:List UInt8),splitC d x=A++[p]→splitC d (x++z)=A++(p++q)::B:=by
 intro x
 induction x with
 | nil =>
  intro A p h;rw[splitC] at h
  cases A with
  | nil =>
   simp at h;subst h;rw[List.nil_append,hz]
   rfl
  | cons a A=>simp at h
 | cons a x ih =>
  intro A p h;rw[splitC] at h;rw[List.cons_append,splitC]
  by_cases ha:a=d
  ·rw[if_pos ha] at h ⊢
   cases A with
   | nil =>
    simp at h;exact absurd h.2 (splitC_ne _ _)
   | cons w A =>
    rw[List.cons_append] at h;injection h with h1 h2;rw[ih A p h2,← h1]
    rfl
  ·rw[if_neg ha] at h ⊢
   cases hs:splitC d x with
   | nil=>exact absurd hs (splitC_ne _ _)
   | cons r rs =>
    rw[hs] at h
    cases A with
    | nil =>
     rw[onto,List.nil_append] at h;injection h with h1 h2;rw[ih [] r (by rw[hs,h2];rfl),← h1]
     rfl
    | cons w A =>
     rw[onto,List.cons_append] at h;injection h with h1 h2;rw[ih (r::A) p (by rw[hs,h2];rfl),← h1]
     rfl
theorem splitC_parts (d:UInt8) (x:List UInt8):∃ A p,splitC d x=A++[p]:=by
 have hne:=splitC_ne d x;exact⟨(splitC d x).dropLast,(splitC d x).getLast hne,(List.dropLast_concat_getLast hne).symm⟩
theorem splitC_head (d:UInt8) (z:List UInt8):∃ q B,splitC d z=q::B:=by
 cases h:splitC d z with
 | nil=>exact absurd h (splitC_ne _ _)
 | cons q B=>exact⟨q,B,rfl⟩
theorem mid_ne {c d:UInt8} (h:c≠d) {x z p q:List UInt8} {A B:List (List UInt8)} (hx:splitC d x=A++[p]) (hz:splitC d z=q::B):splitC d (x++c::z)=A++(p++c::q)::B :=
 splitC_cat d (c::z) (q:=c::q) (B:=B) (by rw[splitC,if_neg h,hz];rfl) x A p hx
theorem mid_eq {d:UInt8} {x z p q:List UInt8} {A B:List (List UInt8)} (hx:splitC d x=A++[p]) (hz:splitC d z=q::B):splitC d (x++d::z)=A++p::q::B:=by
 have:=splitC_cat d (d::z) (q:=[]) (B:=q::B) (by rw[splitC,if_pos rfl,hz]) x A p hx
 rwa [List.append_nil] at this
theorem linesT_zero {t:List UInt8} (h:(linesT t).2=0):∃ m,headR ((splitC 10 t).headD [])=some m∧((splitC 10 t).length:Int)-1=m∧(linesT t).1=(splitC 10 t).tail:=by
 unfold linesT at h ⊢
 cases hh:headR ((splitC 10 t).headD []) with
 | none=>rw[hh] at h;cases h
 | some m =>
  rw[hh] at h;simp only at h ⊢
  by_cases h1:((splitC 10 t).length:Int)-1<m
  ·rw[if_pos h1] at h;cases h
  ·rw[if_neg h1] at h ⊢
   by_cases h2:m<((splitC 10 t).length:Int)-1
   ·rw[if_pos h2] at h;cases h
   ·rw[if_neg h2]
    exact⟨m,rfl,by omega,rfl⟩
theorem head_count (n:Int):1≤(headL n).count 32:=by
 unfold headL REG;rw[List.count_append];have:([114,101,103,105,115,116,101,114,32]:List UInt8).count 32=1:=by decide
 omega
theorem line_count (c:DChange):1≤(lineL c).count 32:=by
 unfold lineL;rw[List.count_append,List.count_cons];simp;omega
theorem itoa_two {n:Int} (h0:0≤n) (h1:n≤48):(Go.Lib.itoa n).length=if n<10 then 1 else 2:=by
 have hl:(Go.Lib.itoa n).length=Go.Lib.nDigits n.toNat:=by
  unfold Go.Lib.itoa;rw[if_neg (by omega),Go.Lib.decDigits_length]
 rw[hl];obtain⟨k,rfl⟩:=Int.eq_ofNat_of_zero_le h0;rw[Int.toNat_natCast]
 by_cases hk:k<10
 ·rw[Go.Lib.nDigits_small hk,if_pos (by omega)]
 ·rw[Go.Lib.nDigits_big hk,Go.Lib.nDigits_small (by omega),if_neg (by omega)]
theorem text_changed {r:DRegister} (h:regB r=true) {x y:List UInt8} {b b':UInt8} (hb:b≠b') (e:textK r r.changes.length=x++b::y):(loadR (x++b'::y)).2.2≠0:=fun h0=>by
 obtain⟨_,_,_,hc,hn⟩:=reg_changes h
 obtain⟨t,ht,hs⟩:=text_parts hc
 rw[ht] at e
 unfold loadR at h0
 rcases app_cases e.symm with ⟨z,hz1,hz2⟩|⟨z,hz1,hz2⟩
 ·rw[hz2,show x++b'::(z++[10])=(x++b'::z)++[10] by simp,linesR_end] at h0
  by_cases hl:(linesT (x++b'::z)).2=0
  case neg=>rw[if_neg hl] at h0;exact hl h0
  rw[if_pos hl] at h0
  obtain⟨m,hm,hlen,htl⟩:=linesT_zero hl
  rw[htl] at h0
  obtain⟨A,p,hx⟩:=splitC_parts 10 x
  obtain⟨q,B,hz⟩:=splitC_head 10 z
  rw[hz1] at hs
  have hls:(r.changes.map lineL).length=r.changes.length:=List.length_map _
  by_cases hb1:b=10
  ·subst hb1
   have hb2:b'≠10:=fun e=>hb e.symm
   rw[mid_eq hx hz] at hs
   rw[mid_ne hb2 hx hz] at hm hlen h0
   cases A with
   | nil =>
    rw[List.nil_append] at hs hm hlen h0
    injection hs with h1 h2
    rw[List.headD_cons,headR_ne2] at hm
    ·cases hm
    ·rw[splitC_len,List.count_append,List.count_cons]
     have c1:=head_count (r.changes.length:Int)
     have c2:1≤q.count 32:=by
      have hq:q ∈ r.changes.map lineL:=by rw[← h2];simp
      obtain⟨c,_,rfl⟩:=List.mem_map.1 hq;exact line_count c
     rw[h1];omega
   | cons a A =>
    rw[List.cons_append] at hs hm hlen h0;injection hs with h1 h2;rw[List.headD_cons,h1,(headR_iff _ (r.changes.length:Int) (by omega) (by omega)).1 rfl] at hm;have hm:=Option.some.inj hm;have:=congrArg List.length h2;rw[hls] at this;simp at this hlen;omega
  ·by_cases hb2:b' = 10
   ·subst hb2
    rw[mid_ne hb1 hx hz] at hs;rw[mid_eq hx hz] at hm hlen h0
    cases A with
    | nil =>
     rw[List.nil_append] at hs hm hlen h0;injection hs with h1 h2;rw[List.headD_cons] at hm;have hrg:=headR_range hm;have hh:=(headR_iff p m hrg.1 hrg.2).2 hm;have:=congrArg List.length h2;rw[hls] at this;simp at hlen;rw[← hh] at h1;have hl1:=congrArg List.length h1;unfold headL at hl1;simp only[List.length_append,List.length_cons] at hl1;rw[itoa_two hrg.1 hrg.2,itoa_two (n:=(r.changes.length:Int)) (by omega) (by omega)] at hl1
     split at hl1<;>split at hl1<;>omega
    | cons a A =>
     rw[List.cons_append] at hs hm hlen h0;injection hs with h1 h2;rw[List.headD_cons,h1,(headR_iff _ (r.changes.length:Int) (by omega) (by omega)).1 rfl] at hm;have hm:=Option.some.inj hm;have:=congrArg List.length h2;rw[hls] at this;simp at this hlen;omega
   ·rw[mid_ne hb1 hx hz] at hs
    rw[mid_ne hb2 hx hz] at hm hlen h0
    cases A with
    | nil =>
     rw[List.nil_append] at hs hm hlen h0;injection hs with h1 h2;rw[List.headD_cons] at hm;have hrg:=headR_range hm;have hh:=(headR_iff _ m hrg.1 hrg.2).2 hm;have:=congrArg List.length h2;rw[hls] at this;simp at hlen;obtain rfl:m=(r.changes.length:Int):=by omega
     rw[hh] at h1;have h3:=List.append_cancel_left h1;injection h3 with h4;exact hb h4
    | cons a A =>
     rw[List.cons_append] at hs hm hlen h0;injection hs with h1 h2;rw[List.tail_cons] at h0;have hi:A.length<r.changes.length:=by
      have:=congrArg List.length h2;rw[hls] at this;simp at this;omega
     have hline:lineL r.changes[A.length]=p++b::q:=by
      have h3:(r.changes.map lineL)[A.length]? = some (p++b::q):=by rw[← h2];simp
      rw[List.getElem?_map,List.getElem?_eq_getElem hi] at h3;exact Option.some.inj h3
     have hbad:=line_changed (hc _ (List.getElem_mem hi)) hb hline;refine load_bad (ls:=A++(p++b'::q)::B) (i:=A.length) (by simp) ?_ h0;have h4:(A++(p++b'::q)::B)[A.length]'(by simp)=p++b'::q:=by simp
     rw[h4];exact hbad
 ·cases z with
  | nil =>
   simp at hz1 hz2;obtain⟨rfl,rfl⟩:=hz2;have hlr:linesR (x++b'::[])=([],11):=by
    unfold linesR;rw[if_neg];simp;exact fun e=>hb e.symm
   rw[hlr] at h0
   cases h0
  | cons d z=>simp at hz2
end Go.Proofs.YtmkkiglcpedkiaaGreatDoor
