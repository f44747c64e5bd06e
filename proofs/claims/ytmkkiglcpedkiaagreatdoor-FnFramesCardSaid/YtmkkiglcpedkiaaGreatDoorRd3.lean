/- Contracts: texts divided, lists of numbers written and read, for the program and for the reference. Conditions: bounded sizes; the library's own variables hold what they hold at the start. -/
import Derived.Test.YtmkkiglcpedkiaaGreatDoorCrc
import Derived.Lib.JoinLaws
set_option linter.unusedVariables false
set_option linter.unusedSimpArgs false
namespace Go.Proofs.YtmkkiglcpedkiaaGreatDoor
open Go.RowKit
theorem extract_seg (s:ByteArray) (f k:Nat) (hk:k≤s.size):s.extract f k=ofL (seg (bl s) f k):=by
 rw[← ofL_bl (s.extract f k)]
 congr 1
 unfold seg bl;rw[ByteArray.data_extract,Array.toList_extract];unfold List.extract;rw[List.drop_take]
theorem rd_fresh (w:World) (E:Nat) (cells:Array Value) (l:List ByteArray) (c:Nat) (hc:l.length≤c) (hm:c≤maxLen) (h:∀ (i:Nat) (hi:i<l.length),cells[i]? = some (.string l[i])) :
  Rd (w.heap.size+1) (w.alloc (.cells cells E)) (strsT l) (.slice (some ⟨w.heap.size,0,none⟩) l.length c):=by
 by_cases h0:l = []
 ·subst h0
  exact⟨[],Rep_sl.2 ⟨_,0,c,rfl,by simp,Nat.zero_le _,hm,Or.inl ⟨rfl,rfl⟩⟩,fun b hb=>by simp at hb⟩
 ·refine⟨[w.heap.size],Rep_sl.2 ⟨_,l.length,c,rfl,by simp,hc,hm,Or.inr ⟨w.heap.size,0,[],by simpa using h0,rfl,rfl,?_⟩⟩,fun b hb=>by simp at hb;omega⟩
  have e:l.map strT=(l.map Value.string).map Tr.lit:=by rw[List.map_map];rfl
  rw[e];refine Reps.lits _ _ _ (fun i hi=>?_);have hi':i<l.length:=by simpa using hi
  have:=h i hi';have hh:(w.alloc (.cells cells E)).heap[w.heap.size]? = some (.cells cells E (0,0)):=by show (w.heap.push _)[w.heap.size]? = _;simp
  simp only[List.getElem_map,Nat.zero_add];rw[cell_of_row' hh];exact this
theorem len_words (c:UInt8) (s:ByteArray):(wordsB c s).length≤s.size+1:=by
 rw[wordsB_len];have:=List.count_le_length (a:=c) (l:=bl s);rw[bl_len] at this;omega
theorem iSplit_any (s:ByteArray) (c:UInt8) (hs:s.size≤1048576) (w:World) (L:LibW w) :
  Calls Tryz.prog 38 #[.string s,.string ⟨#[c]⟩] w fun e w'=>∃ a cc,e=.returned (.slice a (wordsB c s).length cc)∧Below w.heap.size w w'∧Rd w'.heap.size w' (strsT (wordsB c s)) (.slice a (wordsB c s).length cc):=by
 obtain⟨m,hm⟩:=L.m;refine (Tryz.strings_Split s ⟨#[c]⟩ m w (by omega) hm (Nat.le_refl 1)).mono fun e w' ⟨he,hw⟩=>?_
 have hl:Go.Lib.countB s ⟨#[c]⟩+1=(wordsB c s).length:=by rw[countB_one,wordsB_len]
 have hlw:=len_words c s;subst hw;rw[hl] at he;refine⟨_,_,he,(Below.refl _ _).alloc (Nat.le_refl _) _,?_⟩
 have:=rd_fresh w 9 ((Go.Lib.splitB ⟨#[c]⟩ 0 (Go.Lib.countB s ⟨#[c]⟩) s).map Value.string).toArray (wordsB c s) (wordsB c s).length (Nat.le_refl _) (by unfold maxLen;omega) (fun i hi=>by
  rw[splitB_all_words];simp[hi])
 exact this.mono (by simp)
theorem I64_num {l:List UInt8} {v:Int} (h:num l=some v):I64 v:=by
 have:=(num_some h).2
 constructor<;>omega
theorem splitN_size (c:UInt8):∀ (l:List UInt8) (k:Nat) (p:List UInt8),p ∈ splitN c k l→p.length≤l.length:=by
 intro l
 induction l with
 | nil=>intro k p hp;cases k<;>· simp[splitN] at hp;subst hp;simp
 | cons b l ih =>
  intro k p hp
  cases k with
  | zero=>simp[splitN] at hp;subst hp;exact Nat.le_refl _
  | succ k =>
   rw[splitN] at hp
   by_cases h:b=c
   ·rw[if_pos h] at hp
    rcases List.mem_cons.1 hp with rfl|hp
    ·simp
    ·have:=ih k p hp;simp<;>omega
   ·rw[if_neg h] at hp
    cases hs:splitN c (k+1) l with
    | nil=>exact absurd hs (splitN_ne _ _ _)
    | cons q qs =>
     rw[hs] at hp
     rcases List.mem_cons.1 hp with rfl|hp
     ·have:=ih (k+1) q (by rw[hs];simp);simp<;>omega
     ·have:=ih (k+1) p (by rw[hs];simp[hp]);simp<;>omega
theorem words_size (c:UInt8) (s:ByteArray) (p:ByteArray) (h:p ∈ wordsB c s):p.size≤s.size:=by
 unfold wordsB at h;obtain⟨q,hq,rfl⟩:=List.mem_map.1 h;rw[← splitN_full c (bl s) _ (Nat.le_refl _)] at hq;have:=splitN_size c _ _ _ hq;rw[ofL_size,← bl_len];exact this
end Go.Proofs.YtmkkiglcpedkiaaGreatDoor
