/- Contracts: slices.Clone over slices of structs. Conditions: bounded lengths. -/
import Derived.Test.YtmkkiglcpedkiaaGreatDoorHRegister
import Derived.WalkSpells
import Derived.Lib.LazyBuf
set_option linter.unusedVariables false
set_option linter.unusedSimpArgs false
namespace Go.Proofs.YtmkkiglcpedkiaaGreatDoor
open Go.RowKit
set_option maxHeartbeats 400000
theorem DRecord.one (l:List DRecord):∀ t ∈ l.flatMap DRecord.tr,oneT t:=by
 intro t ht;obtain⟨x,_,hx⟩:=List.mem_flatMap.1 ht;simp only[DRecord.tr,List.mem_cons,List.not_mem_nil,or_false] at hx
 rcases hx with rfl|rfl<;>first|rfl|trivial
theorem DRecord.raw {B:Nat} {w:World} {l:List DRecord} {v:Value} (h:Rd B w (DRecord.sT l) v):∃ a c xs,v=.slice a l.length c∧l.length≤c∧c≤maxLen∧Reads w B 2 a l.length xs∧RdV B w (l.flatMap DRecord.tr) xs∧∀ u ∈ xs,u.oneCell' = true:=by
 obtain⟨a,n,c,xs,hv,hl,hnc,hcm,hrd,hx,h1⟩:=Rd.raw h (by decide) (DRecord.one l);rw[flat_length DRecord.tr 2 DRecord.tr_len] at hl;obtain rfl:l.length=n:=Nat.eq_of_mul_eq_mul_right (by decide) hl;exact⟨a,c,xs,hv,hnc,hcm,hrd,hx,h1⟩
theorem cloneRecord_raw (l:List DRecord) (v:Value) (B:Nat) (w:World) (h:Rd B w (DRecord.sT l) v) (hB:B≤w.heap.size) (hn:l.length≤1048576) :
  Calls Tryz.prog 73 #[v] w fun e w'=>∃ a' c' xs,e=.returned (.slice a' l.length c')∧Below w.heap.size w w'∧w'.ownsRow w.heap.size 69 2 (.slice a' l.length c') l.length xs∧RdV B w (l.flatMap DRecord.tr) xs:=by
 obtain⟨i0,hi0,hz0,hz1,hz2⟩:=info_parts infoRecord;obtain⟨a,c,xs,rfl,hnc,hcm,hrd,hx,h1⟩:=DRecord.raw h;have HR:=Lib.hid hrd;have H1:=Lib.hid h1;have HX:=Lib.hid hx
 cases a with
 | none =>
  have hl:l = []:=by
   rcases Nat.eq_zero_or_pos l.length with h0|h0
   ·exact List.eq_nil_of_length_eq_zero h0
   ·obtain⟨ad,e,_⟩:=hrd.2 h0
    cases e
  subst hl;clear hrd h1 hx h;have heq:=fun (W:World)=>Go.run_eql_slice_nil (P:=Tryz.prog) W 24 69 none 0 c Tryz.underlying24
  go_enter Tryz.func73,Tryz.ntmps73;go_wp2;go_ret;exact⟨none,0,[],rfl,Below.refl _ _,⟨by simp,Or.inl ⟨rfl,rfl⟩⟩,trivial⟩
 | some ad =>
  clear hrd h1 hx h;have heq:=fun (W:World)=>Go.run_eql_slice_nil (P:=Tryz.prog) W 24 69 (some ad) l.length c Tryz.underlying24
  go_enter Tryz.func73,Tryz.ntmps73;go_wp2_with (at_builtin;refine wpList_append_any _ rfl (.tmp 5) (.tmp 6) _ rfl w.heap.size 69 i0 _ 2 32 Tryz.underlying24 hi0 hz0 hz1 hz2 rfl (by omega) (.slice (some ⟨w.heap.size,0,none⟩) 0 0) 0 [] rfl (own_emptyK w _ _) B (some ad) l.length c xs rfl (HR.out.alloc hB _) H1.out (by simp only[maxLen];omega) (by omega) (by simp) ?_;intro v1 w1 hown1 hg1 hat1);have hb1:Below w.heap.size w w1:=((Below.refl _ _).alloc (Nat.le_refl _) _).grown hg1 (by simp) (fun k hk=>by simp[Value.ownBlock] at hk;omega);have how:w1.ownsRow w.heap.size 69 2 v1 l.length xs:=by simpa using hown1
  obtain⟨a',c',rfl,_⟩:=ownsRow_slice how;have HO:=Lib.hid how;clear hown1 hg1 hat1 how;go_wp2;go_ret;exact⟨a',c',xs,rfl,hb1,HO.out,HX.out⟩
theorem DChange.one (l:List DChange):∀ t ∈ l.flatMap DChange.tr,oneT t:=by
 intro t ht;obtain⟨x,_,hx⟩:=List.mem_flatMap.1 ht;simp only[DChange.tr,List.mem_cons,List.not_mem_nil,or_false] at hx
 rcases hx with rfl|rfl|rfl|rfl<;>first|rfl|trivial
theorem DChange.raw {B:Nat} {w:World} {l:List DChange} {v:Value} (h:Rd B w (DChange.sT l) v):∃ a c xs,v=.slice a l.length c∧l.length≤c∧c≤maxLen∧Reads w B 4 a l.length xs∧RdV B w (l.flatMap DChange.tr) xs∧∀ u ∈ xs,u.oneCell' = true:=by
 obtain⟨a,n,c,xs,hv,hl,hnc,hcm,hrd,hx,h1⟩:=Rd.raw h (by decide) (DChange.one l);rw[flat_length DChange.tr 4 DChange.tr_len] at hl;obtain rfl:l.length=n:=Nat.eq_of_mul_eq_mul_right (by decide) hl;exact⟨a,c,xs,hv,hnc,hcm,hrd,hx,h1⟩
theorem cloneChange_raw (l:List DChange) (v:Value) (B:Nat) (w:World) (h:Rd B w (DChange.sT l) v) (hB:B≤w.heap.size) (hn:l.length≤1048576) :
  Calls Tryz.prog 49 #[v] w fun e w'=>∃ a' c' xs,e=.returned (.slice a' l.length c')∧Below w.heap.size w w'∧w'.ownsRow w.heap.size 44 4 (.slice a' l.length c') l.length xs∧RdV B w (l.flatMap DChange.tr) xs:=by
 obtain⟨i0,hi0,hz0,hz1,hz2⟩:=info_parts infoChange;obtain⟨a,c,xs,rfl,hnc,hcm,hrd,hx,h1⟩:=DChange.raw h;have HR:=Lib.hid hrd;have H1:=Lib.hid h1;have HX:=Lib.hid hx
 cases a with
 | none =>
  have hl:l = []:=by
   rcases Nat.eq_zero_or_pos l.length with h0|h0
   ·exact List.eq_nil_of_length_eq_zero h0
   ·obtain⟨ad,e,_⟩:=hrd.2 h0
    cases e
  subst hl;clear hrd h1 hx h;have heq:=fun (W:World)=>Go.run_eql_slice_nil (P:=Tryz.prog) W 25 44 none 0 c Tryz.underlying25
  go_enter Tryz.func49,Tryz.ntmps49;go_wp2;go_ret;exact⟨none,0,[],rfl,Below.refl _ _,⟨by simp,Or.inl ⟨rfl,rfl⟩⟩,trivial⟩
 | some ad =>
  clear hrd h1 hx h;have heq:=fun (W:World)=>Go.run_eql_slice_nil (P:=Tryz.prog) W 25 44 (some ad) l.length c Tryz.underlying25
  go_enter Tryz.func49,Tryz.ntmps49;go_wp2_with (at_builtin;refine wpList_append_any _ rfl (.tmp 5) (.tmp 6) _ rfl w.heap.size 44 i0 _ 4 56 Tryz.underlying25 hi0 hz0 hz1 hz2 rfl (by omega) (.slice (some ⟨w.heap.size,0,none⟩) 0 0) 0 [] rfl (own_emptyK w _ _) B (some ad) l.length c xs rfl (HR.out.alloc hB _) H1.out (by simp only[maxLen];omega) (by omega) (by simp) ?_;intro v1 w1 hown1 hg1 hat1);have hb1:Below w.heap.size w w1:=((Below.refl _ _).alloc (Nat.le_refl _) _).grown hg1 (by simp) (fun k hk=>by simp[Value.ownBlock] at hk;omega);have how:w1.ownsRow w.heap.size 44 4 v1 l.length xs:=by simpa using hown1
  obtain⟨a',c',rfl,_⟩:=ownsRow_slice how;have HO:=Lib.hid how;clear hown1 hg1 hat1 how;go_wp2;go_ret;exact⟨a',c',xs,rfl,hb1,HO.out,HX.out⟩
end Go.Proofs.YtmkkiglcpedkiaaGreatDoor
