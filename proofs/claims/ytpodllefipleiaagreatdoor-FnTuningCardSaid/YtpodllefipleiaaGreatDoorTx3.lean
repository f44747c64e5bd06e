/- Requests and samples that texts spell. Plain lemmas; no program. -/
import Derived.Test.YtpodllefipleiaaGreatDoorTx2
import Derived.Test.YtpodllefipleiaaGreatDoorPlReq
set_option linter.unusedVariables false
set_option linter.unusedSimpArgs false
namespace Go.Proofs.YtpodllefipleiaaGreatDoor
def zal {α:Type} (f:List UInt8→Option α):List (List UInt8)→Option (List α)
 | []=>some []
 | p::ps=>match f p,zal f ps with
  | some v,some vs=>some (v::vs)
  | _,_=>none
theorem zbw {α:Type} {f:List UInt8→Option α} {p:List UInt8} {ps:List (List UInt8)} {l:List α} (h:zal f (p::ps)=some l):∃ v vs,l=v::vs∧f p=some v∧zal f ps=some vs:=by
 rw[zal] at h
 cases h1:f p with
 | none=>rw[h1] at h;cases h
 | some v =>
  cases h2:zal f ps with
  | none=>rw[h1,h2] at h;cases h
  | some vs=>rw[h1,h2] at h;exact⟨v,vs,(Option.some.inj h).symm,rfl,rfl⟩
theorem optAll_snoc {α:Type} {f:List UInt8→Option α} (ps:List (List UInt8)) (p:List UInt8) (l:List α) (h:zal f ps=some l):zal f (ps++[p])=match f p with|some v=>some (l++[v])|none=>none:=by
 induction ps generalizing l with
 | nil =>
  obtain rfl:l = []:=(Option.some.inj h).symm;rw[List.nil_append,zal,zal]
  cases f p<;>rfl
 | cons q ps ih =>
  obtain⟨v,vs,rfl,h1,h2⟩:=zbw h;rw[List.cons_append,zal,ih vs h2,h1]
  cases f p<;>rfl
theorem optAll_none {α:Type} {f:List UInt8→Option α} {ps:List (List UInt8)} (p:List UInt8) (hp:p ∈ ps) (h:f p=none):zal f ps=none:=by
 induction ps with
 | nil=>cases hp
 | cons q ps ih =>
  rcases List.mem_cons.1 hp with rfl|hp
  ·rw[zal,h]
  ·rw[zal,ih hp];cases f q<;>rfl
theorem optAll_len {α:Type} {f:List UInt8→Option α} {ps:List (List UInt8)} {l:List α} (h:zal f ps=some l):l.length=ps.length:=by
 induction ps generalizing l with
 | nil=>obtain rfl:l = []:=(Option.some.inj h).symm;rfl
 | cons p ps ih =>
  obtain⟨v,vs,rfl,_,h2⟩:=zbw h;rw[List.length_cons,List.length_cons,ih h2]
theorem optAll_map {α:Type} {f:List UInt8→Option α} {t:α→List UInt8} (ht:∀ p v,f p=some v→t v=p) {ps:List (List UInt8)} {l:List α} (h:zal f ps=some l):l.map t=ps:=by
 induction ps generalizing l with
 | nil=>obtain rfl:l = []:=(Option.some.inj h).symm;rfl
 | cons p ps ih =>
  obtain⟨v,vs,rfl,h1,h2⟩:=zbw h;rw[List.map_cons,ih h2,ht p v h1]
theorem cut_split (c:UInt8) (l:List UInt8):∃ a r,zah c l=a::r∧(Go.Lib.cut l [c]).1=a∧(Go.Lib.cut l [c]).2.1=Go.Lib.join r [c]:=by
 induction l with
 | nil=>exact⟨[],[],rfl,rfl,rfl⟩
 | cons b l ih =>
  obtain⟨a,r,hs,h1,h2⟩:=ih;unfold Go.Lib.cut at h1 h2 ⊢;rw[index_cons_one,zah]
  by_cases h:b=c
  ·subst h
   simp only[if_true];exact⟨[],zah b l,rfl,by simp,by simp[zbx]⟩
  ·simp only[h,if_false]
   rw[hs];have hge:=Go.Lib.index_ge l [c]
   by_cases hm:Go.Lib.index l [c] = -1
   ·simp only[hm] at h1 h2 ⊢
    simp at h1 h2 ⊢;exact⟨b::a,r,rfl,by rw[h1],h2⟩
   ·obtain⟨j,hj⟩:∃ j:Nat,Go.Lib.index l [c]=j:=⟨(Go.Lib.index l [c]).toNat,by omega⟩
    simp only[hj] at h1 h2 ⊢;have e1:¬ ((j:Int) = -1):=by omega
    have e2:(0:Int)≤(j:Int)+1:=by omega
    have e3:((j:Int)+1).toNat=j+1:=by omega
    have e4:(0:Int)≤(j:Int):=by omega
    simp only[e1,e2,e3,e4,if_true,if_false,Int.toNat_natCast] at h1 h2 ⊢;refine⟨b::a,r,rfl,by simp[h1],?_⟩;rw[← h2];simp[Nat.add_right_comm]
def smpB (x:DSample):Bool:=inB x.distance 1 283000&&inB x.level (-300000) 300000
def za9 (l:List DSample):Bool:=decide (l.length≤64)&&l.all smpB
def zac (x:DSample):List UInt8:=Go.Lib.itoa x.distance++58::Go.Lib.itoa x.level
def zab (l:List DSample):List UInt8:=if za9 l then (if l = [] then [110,111,110,101] else Go.Lib.join (l.map zac) [32]) else []
def smpI (l:List UInt8):Option DSample:=match num (Go.Lib.cut l [58]).1,num (Go.Lib.cut l [58]).2.1 with
 | some d,some v=>some ⟨d,v⟩
 | _,_=>none
def smpS (l:List UInt8):Option DSample:=match zah 58 l with
 | [a,b]=>match num a,num b with
  | some d,some v=>some ⟨d,v⟩
  | _,_=>none
 | _=>none
theorem num_nil:num []=none:=rfl
theorem join_mem {c:UInt8} {a b:List UInt8} {r:List (List UInt8)} : c ∈ Go.Lib.join (a::b::r) [c]:=by
 rw[Go.Lib.join_cons];simp[Go.Lib.joinTail]
theorem smpI_eq (l:List UInt8):smpI l=smpS l:=by
 obtain⟨a,r,hs,h1,h2⟩:=cut_split 58 l;unfold smpI smpS;rw[h1,h2,hs]
 match r with
 | [] =>
  rw[Go.Lib.join_nil,num_nil]
  cases num a<;>rfl
 | [b]=>rw[Go.Lib.join_one]
 | b::b'::r =>
  rw[num_ne (c:=58) (by decide) (by decide) join_mem]
  cases num a<;>rfl
theorem smpS_text (p:List UInt8) (v:DSample) (h:smpS p=some v):zac v=p:=by
 unfold smpS at h
 match hs:zah 58 p with
 | []=>rw[hs] at h;cases h
 | [a]=>rw[hs] at h;cases h
 | a::b::c::r=>rw[hs] at h;cases h
 | [a,b] =>
  rw[hs] at h
  cases h1:num a with
  | none=>simp only[h1] at h;cases h
  | some d =>
   cases h2:num b with
   | none=>simp only[h1,h2] at h;cases h
   | some w =>
    simp only[h1,h2] at h;obtain rfl:=Option.some.inj h;unfold zac;rw[← (num_some h1).1,← (num_some h2).1,← zbx 58 p,hs];simp[Go.Lib.join_cons,Go.Lib.joinTail]
theorem smpS_ne {p:List UInt8} (h:32 ∈ p):smpS p=none:=by
 cases hs:smpS p with
 | none=>rfl
 | some v =>
  exfalso
  have:=smpS_text p v hs;rw[← this] at h;unfold zac at h
  rcases List.mem_append.1 h with h|h
  ·rcases itoa_mem h with e|e
   ·exact absurd e (by decide)
   ·exact absurd e (by decide)
  ·rcases List.mem_cons.1 h with e|h
   ·exact absurd e (by decide)
   ·rcases itoa_mem h with e|e
    ·exact absurd e (by decide)
    ·exact absurd e (by decide)
def NONE:List UInt8:=[110,111,110,101]
def zas (l:List UInt8):Option (List DSample):=if l=NONE then some [] else match zal smpI (zag 32 64 l) with
 | none=>none
 | some vs=>if zab vs=l then some vs else none
def samplesS (l:List UInt8):Option (List DSample):=if l=NONE then some [] else if 64<(zah 32 l).length then none else match zal smpS (zah 32 l) with
 | none=>none
 | some vs=>if za9 vs then some vs else none
theorem samplesR_eq (l:List UInt8):zas l=samplesS l:=by
 have ei:smpI=smpS:=funext smpI_eq;unfold zas samplesS;rw[ei]
 by_cases h0:l=NONE
 ·rw[if_pos h0,if_pos h0]
 ·rw[if_neg h0,if_neg h0]
  have hlen:=splitC_len 32 l
  by_cases h1:64<(zah 32 l).length
  ·rw[if_pos h1]
   by_cases h2:64<l.count 32
   ·obtain⟨p,hp,hc⟩:=splitN_over 32 l 64 h2
    rw[optAll_none p hp (smpS_ne hc)]
   ·rw[zbu 32 l 64 (by omega)]
    cases hn:zal smpS (zah 32 l) with
    | none=>rfl
    | some vs =>
     have hv:=optAll_len hn;have ht:zab vs = []:=by
      unfold zab za9;rw[decide_eq_false (by omega)];rfl
     show (if zab vs=l then some vs else none)=none
     rw[ht,if_neg];rintro rfl;simp at hlen;omega
  ·rw[if_neg h1,zbu 32 l 64 (by omega)]
   cases hn:zal smpS (zah 32 l) with
   | none=>rfl
   | some vs =>
    have hv:=optAll_len hn;have hi:=optAll_map smpS_text hn;have hne:vs≠[]:=by
     rintro rfl;simp at hv;omega
    show (if zab vs=l then some vs else none)=(if za9 vs then some vs else none)
    unfold zab
    by_cases hb:za9 vs=true
    ·rw[if_pos hb,if_pos hb,if_neg hne,hi,zbx,if_pos rfl]
    ·rw[if_neg hb,if_neg hb,if_neg]
     rintro rfl;simp[zah,zal,smpS,num] at hn
end Go.Proofs.YtpodllefipleiaaGreatDoor
