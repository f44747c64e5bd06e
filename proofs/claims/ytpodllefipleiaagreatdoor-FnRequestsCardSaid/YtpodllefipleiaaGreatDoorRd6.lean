/- Contracts: sectors, read and written, for the program and for the reference. Conditions: bounded sizes; the library's own variables hold what they hold at the start. -/
import Derived.Test.YtpodllefipleiaaGreatDoorRd3
import Derived.Test.YtpodllefipleiaaGreatDoorBox
import Derived.Test.YtpodllefipleiaaGreatDoorTree
set_option linter.unusedVariables false
set_option linter.unusedSimpArgs false
namespace Go.Proofs.YtpodllefipleiaaGreatDoor
open Go.RowKit
set_option maxHeartbeats 4000000
theorem rd_freshI (w:World) (E:Nat) (cells:Array Value) (l:List Int) (c:Nat) (hc:l.length≤c) (hm:c≤maxLen) (h:∀ (i:Nat) (hi:i<l.length),cells[i]? = some (.int .i64 l[i])) :
  Rd (w.heap.size+1) (w.alloc (.cells cells E)) (intsT l) (.slice (some ⟨w.heap.size,0,none⟩) l.length c):=by
 by_cases h0:l = []
 ·subst h0
  exact⟨[],za5.2 ⟨_,0,c,rfl,by simp,Nat.zero_le _,hm,Or.inl ⟨rfl,rfl⟩⟩,fun b hb=>by simp at hb⟩
 ·refine⟨[w.heap.size],za5.2 ⟨_,l.length,c,rfl,by simp,hc,hm,Or.inr ⟨w.heap.size,0,[],by simpa using h0,rfl,rfl,?_⟩⟩,fun b hb=>by simp at hb;omega⟩
  have e:l.map intT=(l.map (Value.int .i64)).map Tr.lit:=by rw[List.map_map];rfl
  rw[e];refine Reps.lits _ _ _ (fun i hi=>?_);have hi':i<l.length:=by simpa using hi
  have:=h i hi';have hh:(w.alloc (.cells cells E)).heap[w.heap.size]? = some (.cells cells E (0,0)):=by show (w.heap.push _)[w.heap.size]? = _;simp
  simp only[List.getElem_map,Nat.zero_add];rw[zae hh];exact this
def numsR (l:List UInt8) (k:Nat):List Int:=match zcu l k with
 | some vs=>vs
 | none=>List.replicate k 0
def numsB (l:List UInt8) (k:Nat):Bool:=(zcu l k).isSome
theorem numsR_len (l:List UInt8) (k:Nat):(numsR l k).length=k:=by
 unfold numsR
 cases h:zcu l k with
 | none=>simp
 | some vs=>exact (readM_some h).2
theorem readNumbers4_any (s:ByteArray) (hs:s.size≤1048576) (w:World) (L:LibW w):Calls Tryz.prog 54 #[.string s,.int .i64 4] w fun e w'=>∃ a c,e=.returned (.tuple #[.slice a 4 c,.bool (numsB (bl s) 4)])∧Below w.heap.size w w'∧Rd w'.heap.size w' (intsT (numsR (bl s) 4)) (.slice a 4 c):=by
 have HR:=Lib.hid (iReadList_any s hs w L);have hmk:=fun W:World=>(show (Instr.makeSlice 65 (.int .i64 4) (.int .i64 4)).run Tryz.prog W=.ok (.slice (some ⟨W.heap.size,0,none⟩) 4 4) (W.alloc (.cells #[.int .i64 0,.int .i64 0,.int .i64 0,.int .i64 0] 2)) by kernel_rfl)
 cases hr:readL (bl s) with
 | none =>
  have HE:Hid (numsR (bl s) 4=List.replicate 4 0):=by show _=_;unfold numsR zcu;rw[hr]
  have HEB:Hid (numsB (bl s) 4=false):=by show _=_;unfold numsB zcu;rw[hr];rfl
  have hvs:True:=trivial;rw[hr] at HR;clear hr L;go_enter Tryz.func54,Tryz.ntmps54;go_wp2_with fail;refine HR.out.mono ?_;rintro e w2 ⟨rfl,hb2⟩;have BW:=Lib.hid hb2;clear hb2
  have HF:=Lib.hid (rd_freshI w2 2 #[.int .i64 0,.int .i64 0,.int .i64 0,.int .i64 0] (List.replicate 4 0) 4 (by simp) (by unfold maxLen;omega) (fun i hi=>by
   have:i<4:=by simpa using hi
   match i,this with
   | 0,_=>rfl
   | 1,_=>rfl
   | 2,_=>rfl
   | 3,_=>rfl))
  clear hvs;go_wp2;go_ret2;rw[HE.out,HEB.out];exact⟨_,4,rfl,BW.out.trans ((Below.refl _ _).alloc BW.out.size _),by simpa using HF.out.mono (by simp)⟩
 | some vs =>
  rw[hr] at HR
  by_cases hvl:vs.length=4
  case neg =>
   have HE:Hid (numsR (bl s) 4=List.replicate 4 0):=by show _=_;unfold numsR zcu;rw[hr];simp[hvl]
   have HEB:Hid (numsB (bl s) 4=false):=by show _=_;unfold numsB zcu;rw[hr];simp[hvl]
   have hvs:((vs.length:Int) != 4)=true:=by rw[bne_iff_ne];omega
   have hvs2:((vs.length:Int) == 4)=false:=by rw[beq_eq_false_iff_ne];omega
   clear hr L hvl;go_enter Tryz.func54,Tryz.ntmps54;go_wp2_with fail;refine HR.out.mono ?_;rintro e w2 ⟨a,c,rfl,hb2,hr2⟩;have BW:=Lib.hid hb2;clear hb2 hr2
   have HF:=Lib.hid (rd_freshI w2 2 #[.int .i64 0,.int .i64 0,.int .i64 0,.int .i64 0] (List.replicate 4 0) 4 (by simp) (by unfold maxLen;omega) (fun i hi=>by
    have:i<4:=by simpa using hi
    match i,this with
    | 0,_=>rfl
    | 1,_=>rfl
    | 2,_=>rfl
    | 3,_=>rfl))
   go_wp2;go_ret2;rw[HE.out,HEB.out];exact⟨_,4,rfl,BW.out.trans ((Below.refl _ _).alloc BW.out.size _),by simpa using HF.out.mono (by simp)⟩
  case pos =>
   have HE:Hid (numsR (bl s) 4=vs):=by show _=_;unfold numsR zcu;rw[hr];simp[hvl]
   have HEB:Hid (numsB (bl s) 4=true):=by show _=_;unfold numsB zcu;rw[hr];simp[hvl]
   clear hr L;have HR2:Hid (Calls Tryz.prog 90 #[.string s] w fun e w'=>∃ a c,e=.returned (.tuple #[.slice a 4 c,.bool true])∧Below w.heap.size w w'∧Rd w'.heap.size w' (intsT vs) (.slice a 4 c)):=by
    have:=HR.out;unfold ReadP at this;simp only[hvl] at this;exact this
   clear HR hvl;go_enter Tryz.func54,Tryz.ntmps54;go_wp2_with fail;refine HR2.out.mono ?_;rintro e w2 ⟨a,c,rfl,hb2,hr2⟩;have BW:=Lib.hid hb2;have RW:=Lib.hid hr2;clear hb2 hr2 hmk;go_wp2;go_ret2;rw[HE.out,HEB.out];exact⟨a,c,rfl,BW.out,RW.out⟩
theorem rd_cellsI (W:World) (b:Nat) (l:List Int) (c:Nat) (h0:0<l.length) (hc:l.length≤c) (hm:c≤maxLen) (h:∀ (i:Nat) (hi:i<l.length),W.cell? ⟨b,i,none⟩=some (.int .i64 l[i])) :
  Rd (b+1) W (intsT l) (.slice (some ⟨b,0,none⟩) l.length c):=by
 refine⟨[b],za5.2 ⟨_,l.length,c,rfl,by simp,hc,hm,Or.inr ⟨b,0,[],by have:=List.length_pos_iff.1 h0;simpa using this,rfl,rfl,?_⟩⟩,fun b hb=>by simp at hb;omega⟩;have e:l.map intT=(l.map (Value.int .i64)).map Tr.lit:=by rw[List.map_map];rfl
 rw[e];refine Reps.lits _ _ _ (fun i hi=>?_);have hi':i<l.length:=by simpa using hi
 simp only[List.getElem_map,Nat.zero_add];exact h i hi'
theorem joinC_any (W:World) (b c:Nat) (l:List ByteArray) (m:Nat) (hc:l.length≤c) (hl:l.length≤64) (hb:b<W.heap.size) (hm:∀ x ∈ l,x.size≤m) (hm2:m≤1073741824) (h:∀ (i:Nat) (hi:i<l.length),W.cell? ⟨b,i,none⟩=some (.string l[i])) :
  Calls Tryz.prog 35 #[.slice (some ⟨b,0,none⟩) l.length c,.string ⟨#[32]⟩] W fun e w'=>e=.returned (.string (ofL (Go.Lib.join (l.map bl) [32])))∧Below W.heap.size W w':=by
 refine Tryz.strings_Join b 0 c l ⟨#[32]⟩ W (fun j x hx=>by
  obtain⟨hj,e⟩:=List.getElem?_eq_some_iff.1 hx
  rw[Nat.zero_add,h j hj,e]) hb (by omega) hc ?_
 have:=join_len (l.map bl) 32 m (fun x hx=>by
  obtain⟨n,hn,rfl⟩:=List.mem_map.1 hx
  exact hm n hn)
 rw[List.length_map] at this;have h2:l.length*(m+1)≤64*(m+1):=Nat.mul_le_mul_right _ hl;exact Nat.le_trans this (by omega)
theorem listText_len (l:List Int) (h:∀ n ∈ l,I64 n):(zag l).length≤1408:=by
 unfold zag
 split
 ·simp
 ·rename_i h64
  split
  ·simp
  ·split
   ·have:=join_len (l.map Go.Lib.itoa) 44 21 (fun x hx=>by
     obtain⟨n,hn,rfl⟩:=List.mem_map.1 hx;have:=h n hn
     exact Go.Lib.itoa_length_le n this.1 this.2)
    rw[List.length_map] at this;have:l.length*(21+1)≤64*22:=Nat.mul_le_mul_right _ (by omega);omega
   ·simp
theorem numsR_four (l:List UInt8):∃ x y z u,numsR l 4 = [x,y,z,u]:=by
 have:=numsR_len l 4
 match h:numsR l 4,this with
 | [x,y,z,u],_=>exact⟨x,y,z,u,rfl⟩
theorem numsR_some {l:List UInt8} {k:Nat} {vs:List Int} (h:zcu l k=some vs):numsR l k=vs∧numsB l k=true:=by unfold numsR numsB;rw[h];exact⟨rfl,rfl⟩
theorem numsB_none {l:List UInt8} {k:Nat} (h:zcu l k=none):numsB l k=false:=by unfold numsB;rw[h];rfl
end Go.Proofs.YtpodllefipleiaaGreatDoor
