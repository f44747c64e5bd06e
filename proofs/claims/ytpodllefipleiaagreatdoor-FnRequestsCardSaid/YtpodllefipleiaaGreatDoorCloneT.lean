/- Contracts: slices.Clone over slices of structs. Conditions: bounded lengths. -/
import Derived.Test.YtpodllefipleiaaGreatDoorBox
import Derived.Test.YtpodllefipleiaaGreatDoorHRequest
import Derived.WalkSpells
import Derived.Lib.LazyBuf
set_option linter.unusedVariables false
set_option linter.unusedSimpArgs false
namespace Go.Proofs.YtpodllefipleiaaGreatDoor
open Go.RowKit
set_option maxHeartbeats 400000
theorem DRequest.one (l:List DRequest):∀ t ∈ l.flatMap DRequest.tr,oneT t:=by
 intro t ht;obtain⟨x,_,hx⟩:=List.mem_flatMap.1 ht;simp only[DRequest.tr,List.mem_cons,List.not_mem_nil,or_false] at hx
 rcases hx with rfl|rfl|rfl|rfl|rfl|rfl|rfl|rfl<;>first|rfl|trivial
theorem DRequest.lits (l:List DRequest):∀ t ∈ l.flatMap DRequest.tr,∃ v,t=.lit v:=by
 intro t ht;obtain⟨x,_,hx⟩:=List.mem_flatMap.1 ht;simp only[DRequest.tr,List.mem_cons,List.not_mem_nil,or_false] at hx
 rcases hx with rfl|rfl|rfl|rfl|rfl|rfl|rfl|rfl<;>exact⟨_,rfl⟩
theorem grow_Request {B:Nat} {w w':World} {base E n:Nat} {v:Value} {l:List DRequest} {xs:List Value} (h:w'.ownsRow base E 8 v n xs) (hx:RdV B w (l.flatMap DRequest.tr) xs):Grow w' base E 8 v n (l.flatMap DRequest.tr) []:=grow_flat h hx (DRequest.lits l)
theorem DRequest.raw {B:Nat} {w:World} {l:List DRequest} {v:Value} (h:Rd B w (DRequest.sT l) v):∃ a c xs,v=.slice a l.length c∧l.length≤c∧c≤maxLen∧Reads w B 8 a l.length xs∧RdV B w (l.flatMap DRequest.tr) xs∧∀ u ∈ xs,u.oneCell' = true:=by
 obtain⟨a,n,c,xs,hv,hl,hnc,hcm,hrd,hx,h1⟩:=Rd.raw h (by decide) (DRequest.one l);rw[zcd DRequest.tr 8 DRequest.tr_len] at hl;obtain rfl:l.length=n:=Nat.eq_of_mul_eq_mul_right (by decide) hl;exact⟨a,c,xs,hv,hnc,hcm,hrd,hx,h1⟩
theorem cloneRequest_raw (l:List DRequest) (v:Value) (B:Nat) (w:World) (h:Rd B w (DRequest.sT l) v) (hB:B≤w.heap.size) (hn:l.length≤1048576) :
  Calls Tryz.prog 52 #[v] w fun e w'=>∃ a' c' xs,e=.returned (.slice a' l.length c')∧Below w.heap.size w w'∧w'.ownsRow w.heap.size 45 8 (.slice a' l.length c') l.length xs∧RdV B w (l.flatMap DRequest.tr) xs:=by
 obtain⟨i0,hi0,hz0,hz1,hz2⟩:=info_parts infoRequest;obtain⟨a,c,xs,rfl,hnc,hcm,hrd,hx,h1⟩:=DRequest.raw h;have HR:=Lib.hid hrd;have H1:=Lib.hid h1;have HX:=Lib.hid hx
 cases a with
 | none =>
  have hl:l = []:=by
   rcases Nat.eq_zero_or_pos l.length with h0|h0
   ·exact List.eq_nil_of_length_eq_zero h0
   ·obtain⟨ad,e,_⟩:=hrd.2 h0
    cases e
  subst hl;clear hrd h1 hx h;have heq:=fun (W:World)=>Go.run_eql_slice_nil (P:=Tryz.prog) W 43 45 none 0 c Tryz.underlying43
  go_enter Tryz.func52,Tryz.ntmps52;go_wp2;go_ret;exact⟨none,0,[],rfl,Below.refl _ _,⟨by simp,Or.inl ⟨rfl,rfl⟩⟩,trivial⟩
 | some ad =>
  clear hrd h1 hx h;have heq:=fun (W:World)=>Go.run_eql_slice_nil (P:=Tryz.prog) W 43 45 (some ad) l.length c Tryz.underlying43
  go_enter Tryz.func52,Tryz.ntmps52;go_wp2_with (at_builtin;refine zbq _ rfl (.tmp 5) (.tmp 6) _ rfl w.heap.size 45 i0 _ 8 88 Tryz.underlying43 hi0 hz0 hz1 hz2 rfl (by omega) (.slice (some ⟨w.heap.size,0,none⟩) 0 0) 0 [] rfl (own_emptyK w _ _) B (some ad) l.length c xs rfl (HR.out.alloc hB _) H1.out (by simp only[maxLen];omega) (by omega) (by simp) ?_;intro v1 w1 hown1 hg1 hat1);have hb1:Below w.heap.size w w1:=((Below.refl _ _).alloc (Nat.le_refl _) _).grown hg1 (by simp) (fun k hk=>by simp[Value.ownBlock] at hk;omega);have how:w1.ownsRow w.heap.size 45 8 v1 l.length xs:=by simpa using hown1
  obtain⟨a',c',rfl,_⟩:=zcv how;have HO:=Lib.hid how;clear hown1 hg1 hat1 how;go_wp2;go_ret;exact⟨a',c',xs,rfl,hb1,HO.out,HX.out⟩
theorem zb2 (l:List DRequest) (v:Value) (w:World) (h:Rd w.heap.size w (DRequest.sT l) v) (hn:l.length≤1048576) :
  Calls Tryz.prog 52 #[v] w fun e w'=>∃ a' c' fp,e=.returned (.slice a' l.length c')∧Below w.heap.size w w'∧Own w' (DRequest.sT l) (.slice a' l.length c') fp∧In w.heap.size w'.heap.size fp:=by
 refine (cloneRequest_raw l v w.heap.size w h (Nat.le_refl _) hn).mono ?_;rintro e w' ⟨a',c',xs,rfl,hb,ho,hx⟩;obtain⟨a2,c2,fp,e2,hO,hI⟩:=(grow_Request ho hx).toOwn (lo:=w.heap.size) (by decide) In.nil (Nat.le_refl _);injection e2 with e3 _ e4;subst e3 e4;exact⟨a',c',fp,rfl,hb,hO,hI⟩
end Go.Proofs.YtpodllefipleiaaGreatDoor
