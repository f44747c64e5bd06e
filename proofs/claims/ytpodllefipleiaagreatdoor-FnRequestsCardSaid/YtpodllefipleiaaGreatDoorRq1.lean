/- A request is restored from its text. Plain. No program. -/
import Derived.Test.YtpodllefipleiaaGreatDoorRd7
set_option linter.unusedVariables false
set_option linter.unusedSimpArgs false
namespace Go.Proofs.YtpodllefipleiaaGreatDoor
theorem name_no32 {s:ByteArray} (h:zbi s=true):(32:UInt8) ∉ bl s:=fun hm=>by
 unfold zbi at h
 simp only[Bool.and_eq_true,List.all_eq_true] at h
 have:=h.2.2.2 ((32:UInt8).toNat:Int) (List.mem_map.2 ⟨32,hm,rfl⟩)
 exact absurd this (by decide)
theorem join4 (a b c d:List UInt8) (s:UInt8):Go.Lib.join [a,b,c,d] [s]=a++s::(b++s::(c++s::d)):=by simp[Go.Lib.join_cons,Go.Lib.joinTail]
theorem list_back {x y z u:Int} (hx:bnd x=true) (hy:bnd y=true) (hz:bnd z=true) (hu:bnd u=true):zcu (zag [x,y,z,u]) 4=some [x,y,z,u]∧(32:UInt8) ∉ zag [x,y,z,u]:=by
 have ht:zag [x,y,z,u]=Go.Lib.join ([x,y,z,u].map Go.Lib.itoa) [44]:=by
  unfold zag;rw[if_neg (by simp),if_neg (by simp),if_pos (by simp[hx,hy,hz,hu])]
 have hsp:zar 44 (zag [x,y,z,u]) = [x,y,z,u].map Go.Lib.itoa:=by
  rw[ht]
  exact splitC_join 44 _ (by simp) (fun p hp=>by
   obtain⟨n,_,rfl⟩:=List.mem_map.1 hp
   exact itoa_no (by decide) (by decide))
 have hne:zag [x,y,z,u]≠[45]:=fun e=>by
  rw[e] at hsp;have:(zar 44 [45]).length=1:=rfl;rw[hsp] at this;simp at this
 have hb:∀ n ∈ [x,y,z,u],bnd n=true:=by
  intro n hn;simp only[List.mem_cons,List.not_mem_nil,or_false] at hn
  rcases hn with rfl|rfl|rfl|rfl<;>assumption
 have hnum:nums ([x,y,z,u].map Go.Lib.itoa)=some [x,y,z,u]:=by
  rw[nums_optAll]
  exact optAll_back (fun n hn=>num_itoa n (by
   have:=hb n hn;unfold bnd at this;simp only[Bool.and_eq_true,decide_eq_true_eq] at this
   omega))
 refine⟨?_,?_⟩
 ·unfold zcu
  rw[readL_eq];unfold readS;rw[if_neg hne,hsp,if_neg (by simp),hnum];show (match (if [x,y,z,u].all bnd=true then some [x,y,z,u] else none) with|none=>none|some vs=>if vs.length=4 then some vs else none)=_
  rw[if_pos (by simp[hx,hy,hz,hu])]
  rfl
 ·rw[ht]
  show (32:UInt8) ∉ Go.Lib.join [Go.Lib.itoa x,Go.Lib.itoa y,Go.Lib.itoa z,Go.Lib.itoa u] [44]
  rw[join4];have n1:∀ n:Int,(32:UInt8) ∉ Go.Lib.itoa n:=fun n=>itoa_no (by decide) (by decide)
  simp[n1]
theorem state_no32 (k:Int):(32:UInt8) ∉ zaq k:=by
 unfold zaq
 split
 ·decide
 ·split
  ·decide
  ·split
   ·decide
   ·split
    ·decide
    ·split
     ·decide
     ·simp
theorem req_back {x:DRequest} (h:reqB x=true):reqR (zbb x)=some x:=by
 have h0:=h;unfold reqB at h;simp only[Bool.and_eq_true,decide_eq_true_eq,inB] at h;obtain⟨h1,h2,h3,_,⟨h4,h4'⟩,⟨h5,h5'⟩,_,⟨h6,h6'⟩,h7,⟨h8,h8'⟩⟩:=h;have bd:∀ n:Int,0≤n→n≤100000000→bnd n=true:=fun n a b=>by
  unfold bnd;rw[decide_eq_true (by omega),decide_eq_true (by omega)]
  rfl
 obtain⟨hr,hl⟩:=list_back (bd x.low (by omega) h4') (bd x.high (by omega) h5') (bd x.filed h6 (by omega)) (bd x.deadline (by omega) (by omega));have hs:zal (zaq x.state)=x.state:=(state_eq x.state h8 h8' _).1 rfl;have hsp:zar 32 (Go.Lib.join [bl x.id,bl x.applicant,bl x.partner,zag [x.low,x.high,x.filed,x.deadline],zaq x.state] [32]) = [bl x.id,bl x.applicant,bl x.partner,zag [x.low,x.high,x.filed,x.deadline],zaq x.state] :=
  splitC_join 32 _ (by simp) (fun p hp=>by
   simp only[List.mem_cons,List.not_mem_nil,or_false] at hp
   rcases hp with rfl|rfl|rfl|rfl|rfl
   ·exact name_no32 h1
   ·exact name_no32 h2
   ·exact name_no32 h3
   ·exact hl
   ·exact state_no32 _)
 unfold zbb;rw[if_pos h0];unfold reqR;rw[bl_ofL,hsp];have e:∀ s:ByteArray,ofL (bl s)=s:=fun s=>ofL_eq.2 rfl
 simp only[hr,e,hs];rw[if_pos h0]
end Go.Proofs.YtpodllefipleiaaGreatDoor
