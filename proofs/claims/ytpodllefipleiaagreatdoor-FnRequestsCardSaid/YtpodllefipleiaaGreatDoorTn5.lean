/- Fits: what bounds the sums; a fit that is valid. Plain. No program. -/
import Derived.Test.YtpodllefipleiaaGreatDoorTx2
import Derived.Test.YtpodllefipleiaaGreatDoorPlReq
import Derived.Test.YtpodllefipleiaaGreatDoorTn1
set_option linter.unusedVariables false
set_option linter.unusedSimpArgs false
namespace Go.Proofs.YtpodllefipleiaaGreatDoor
def optAll {α:Type} (f:List UInt8→Option α):List (List UInt8)→Option (List α)
 | []=>some []
 | p::ps=>match f p,optAll f ps with
  | some v,some vs=>some (v::vs)
  | _,_=>none
theorem nums_optAll (ps:List (List UInt8)):nums ps=optAll num ps:=by
 induction ps with
 | nil=>rfl
 | cons p ps ih=>rw[nums,optAll,ih];cases num p<;>cases optAll num ps<;>rfl
def zaq (k:Int):List UInt8:=if k=1 then [111,112,101,110] else if k=2 then [97,103,114,101,101,100] else if k=3 then [114,101,102,117,115,101,100] else if k=4 then [119,105,116,104,100,114,97,119,110] else if k=5 then [108,97,112,115,101,100] else []
def zal (l:List UInt8):Int:=if l = [111,112,101,110] then 1 else if l = [97,103,114,101,101,100] then 2 else if l = [114,101,102,117,115,101,100] then 3 else if l = [119,105,116,104,100,114,97,119,110] then 4 else if l = [108,97,112,115,101,100] then 5 else 0
theorem stateText_of {l:List UInt8} (h:zal l≠0):zaq (zal l)=l:=by
 unfold zal at h ⊢
 split<;>rename_i h1
 ·rw[h1];rfl
 ·rw[if_neg h1] at h
  split<;>rename_i h2
  ·rw[h2];rfl
  ·rw[if_neg h2] at h
   split<;>rename_i h3
   ·rw[h3];rfl
   ·rw[if_neg h3] at h
    split<;>rename_i h4
    ·rw[h4];rfl
    ·rw[if_neg h4] at h
     split<;>rename_i h5
     ·rw[h5];rfl
     ·rw[if_neg h5] at h;exact absurd rfl h
def reqR (s:ByteArray):Option DRequest:=match zar 32 (bl s) with
 | [a,b,c,n,t]=>match zcu n 4 with
  | some [x,y,z,u]=>if reqB ⟨ofL a,ofL b,ofL c,x,y,z,u,zal t⟩ then some ⟨ofL a,ofL b,ofL c,x,y,z,u,zal t⟩ else none
  | _=>none
 | _=>none
def zbb (x:DRequest):ByteArray:=if reqB x then ofL (Go.Lib.join [bl x.id,bl x.applicant,bl x.partner,zag [x.low,x.high,x.filed,x.deadline],zaq x.state] [32]) else ofL []
theorem reqText_of {s:ByteArray} {a b c n t:List UInt8} {x y z u:Int} (h:zar 32 (bl s) = [a,b,c,n,t]) (hr:zcu n 4=some [x,y,z,u]) (hs:zal t≠0) :
  (zbb ⟨ofL a,ofL b,ofL c,x,y,z,u,zal t⟩=s↔reqB ⟨ofL a,ofL b,ofL c,x,y,z,u,zal t⟩=true):=by
 unfold zbb
 by_cases hv:reqB ⟨ofL a,ofL b,ofL c,x,y,z,u,zal t⟩=true
 ·rw[if_pos hv]
  simp only[bl_ofL,hv,iff_true];rw[ofL_eq,readM_text hr,stateText_of hs];exact join_words h
 ·rw[if_neg hv]
  refine⟨fun hs=>?_,fun e=>absurd e hv⟩;rw[← hs] at h;rw[bl_ofL] at h;simp[zar] at h
theorem splitC_join (c:UInt8):(l:List (List UInt8))→(hne:l≠[])→(h:∀ p ∈ l,c ∉ p)→zar c (Go.Lib.join l [c])=l
 | [],hne,_=>absurd rfl hne
 | [p],_,h=>by rw[Go.Lib.join_one];exact splitC_plain c p (h p (by simp))
 | p::q::r,_,h=>by
  have e:Go.Lib.join (p::q::r) [c]=p++c::Go.Lib.join (q::r) [c]:=by simp[Go.Lib.join_cons,Go.Lib.joinTail]
  rw[e,splitC_app c p _ (h p (by simp)),splitC_join c (q::r) (by simp) (fun x hx=>h x (List.mem_cons_of_mem _ hx))]
theorem itoa_no {v:Int} {c:UInt8} (h1:c≠45) (h2:isD c=false):c ∉ Go.Lib.itoa v:=fun h=>by
 rcases itoa_mem h with e|e
 ·exact h1 e
 ·rw[h2] at e;cases e
theorem optAll_back {α:Type} {f:List UInt8→Option α} {t:α→List UInt8} {l:List α} (h:∀ x ∈ l,f (t x)=some x):optAll f (l.map t)=some l:=by
 induction l with
 | nil=>rfl
 | cons x l ih=>rw[List.map_cons,optAll,h x (by simp),ih (fun y hy=>h y (by simp[hy]))]
end Go.Proofs.YtpodllefipleiaaGreatDoor
