/- Contracts: sectors, read and written, for the program and for the reference. Conditions: bounded sizes; the library's own variables hold what they hold at the start. -/
import Derived.Test.YtpodllefipleiaaGreatDoorRd2
import Derived.Lib.JoinLaws
import Derived.Test.YtpodllefipleiaaGreatDoorBox
import Derived.Test.YtpodllefipleiaaGreatDoorOrd
set_option linter.unusedVariables false
set_option linter.unusedSimpArgs false
namespace Go.Proofs.YtpodllefipleiaaGreatDoor
open Go.RowKit
theorem infoStr:(Tryz.prog.info? 9).map (fun i=>(i.zero,i.size,i.bytes))=some (some (.string ⟨#[]⟩),1,16):=by kernel_rfl
theorem rd_fresh (w:World) (E:Nat) (cells:Array Value) (l:List ByteArray) (c:Nat) (hc:l.length≤c) (hm:c≤maxLen) (h:∀ (i:Nat) (hi:i<l.length),cells[i]? = some (.string l[i])) :
  Rd (w.heap.size+1) (w.alloc (.cells cells E)) (strsT l) (.slice (some ⟨w.heap.size,0,none⟩) l.length c):=by
 by_cases h0:l = []
 ·subst h0
  exact⟨[],zaw.2 ⟨_,0,c,rfl,by simp,Nat.zero_le _,hm,Or.inl ⟨rfl,rfl⟩⟩,fun b hb=>by simp at hb⟩
 ·refine⟨[w.heap.size],zaw.2 ⟨_,l.length,c,rfl,by simp,hc,hm,Or.inr ⟨w.heap.size,0,[],by simpa using h0,rfl,rfl,?_⟩⟩,fun b hb=>by simp at hb;omega⟩
  have e:l.map strT=(l.map Value.string).map Tr.lit:=by rw[List.map_map];rfl
  rw[e];refine Reps.lits _ _ _ (fun i hi=>?_);have hi':i<l.length:=by simpa using hi
  have:=h i hi';have hh:(w.alloc (.cells cells E)).heap[w.heap.size]? = some (.cells cells E (0,0)):=by show (w.heap.push _)[w.heap.size]? = _;simp
  simp only[List.getElem_map,Nat.zero_add];rw[zam hh];exact this
def zbd (c:UInt8) (s:ByteArray):List ByteArray:=(zag c 64 (bl s)).map ofL
theorem iSplitN_any (s:ByteArray) (c:UInt8) (hs:s.size≤1048576) (w:World) (L:LibW w) :
  Calls Tryz.prog 31 #[.string s,.string ⟨#[c]⟩,.int .i64 65] w fun e w'=>∃ a cc,e=.returned (.slice a (zbd c s).length cc)∧Below w.heap.size w w'∧Rd w'.heap.size w' (strsT (zbd c s)) (.slice a (zbd c s).length cc)∧(zbd c s).length≤65:=by
 obtain⟨m,hm⟩:=L.m;refine (Tryz.strings_SplitN s ⟨#[c]⟩ 65 m w (by omega) hm (Nat.le_refl 1) (by omega) (by omega)).mono fun e w' ⟨he,hw⟩=>?_
 have hk:zag c (min 65 (s.size+1)-1) (bl s)=zag c 64 (bl s):=by
  have:=splitN_min c 64 (bl s);rw[bl_len] at this;exact this
 have hwd:Go.Lib.splitB ⟨#[c]⟩ 0 (min 65 (s.size+1)-1) s=zbd c s:=by rw[splitB_words,hk];rfl
 have hle:=Go.Lib.splitB_length_le ⟨#[c]⟩ 0 (min 65 (s.size+1)-1) s;rw[hwd] at he hle;subst hw;rw[hwd];refine⟨_,_,he,(Below.refl _ _).alloc (Nat.le_refl _) _,?_,by omega⟩
 have:=rd_fresh w 9 (Go.Lib.cellsOf (zbd c s) (min 65 (s.size+1))) (zbd c s) (min 65 (s.size+1)) (by omega) (by unfold maxLen;omega) (fun i hi=>by
  unfold Go.Lib.cellsOf
  rw[List.getElem?_toArray,List.getElem?_append_left (by simpa using hi)];simp[hi])
 exact this.mono (by simp)
theorem join_len (xs:List (List UInt8)) (c:UInt8) (m:Nat) (h:∀ x ∈ xs,x.length≤m):(Go.Lib.join xs [c]).length≤xs.length*(m+1):=by
 cases xs with
 | nil=>simp[Go.Lib.join_nil]
 | cons x xs =>
  rw[Go.Lib.join_cons,List.length_append];have h1:=h x (by simp);have h2:(Go.Lib.joinTail [c] xs).length≤xs.length*(m+1):=by
   have h3:∀ y ∈ xs,y.length≤m:=fun y hy=>h y (by simp[hy])
   clear h h1;unfold Go.Lib.joinTail
   induction xs with
   | nil=>simp
   | cons y ys ih =>
    have h4:=h3 y (by simp);have h5:=ih (fun z hz=>h3 z (by simp[hz]));rw[List.map_cons,List.flatten_cons,List.length_append,List.length_append,List.length_cons,List.length_cons,Nat.succ_mul,List.length_nil];omega
  rw[List.length_cons,Nat.succ_mul];omega
theorem I64_num {l:List UInt8} {v:Int} (h:num l=some v):I64 v:=by
 have:=(num_some h).2
 constructor<;>omega
theorem splitN_size (c:UInt8):∀ (l:List UInt8) (k:Nat) (p:List UInt8),p ∈ zag c k l→p.length≤l.length:=by
 intro l
 induction l with
 | nil=>intro k p hp;cases k<;>· simp[zag] at hp;subst hp;simp
 | cons b l ih =>
  intro k p hp
  cases k with
  | zero=>simp[zag] at hp;subst hp;exact Nat.le_refl _
  | succ k =>
   rw[zag] at hp
   by_cases h:b=c
   ·rw[if_pos h] at hp
    rcases List.mem_cons.1 hp with rfl|hp
    ·simp
    ·have:=ih k p hp;simp<;>omega
   ·rw[if_neg h] at hp
    cases hs:zag c (k+1) l with
    | nil=>exact absurd hs (splitN_ne _ _ _)
    | cons q qs =>
     rw[hs] at hp
     rcases List.mem_cons.1 hp with rfl|hp
     ·have:=ih (k+1) q (by rw[hs];simp);simp<;>omega
     ·have:=ih (k+1) p (by rw[hs];simp[hp]);simp<;>omega
theorem words_sizeN (c:UInt8) (s:ByteArray) (p:ByteArray) (h:p ∈ zbd c s):p.size≤s.size:=by
 unfold zbd at h;obtain⟨q,hq,rfl⟩:=List.mem_map.1 h;have:=splitN_size c _ _ _ hq;rw[ofL_size,← bl_len];exact this
theorem ofL_app (a b:List UInt8):ofL a++ofL b=ofL (a++b):=by
 rw[← ofL_bl (ofL a++ofL b)]
 congr 1
end Go.Proofs.YtpodllefipleiaaGreatDoor
