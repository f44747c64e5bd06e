/- Contracts: copies of lists of integers, for the program and for the reference. Conditions: bounded lengths. -/
import Derived.Test.YtgmapjgodibchaaGreatDoorProb1
import Derived.Test.YtgmapjgodibchaaGreatDoorRaw
import Derived.WalkSpells
import Derived.Lib.LazyBuf
set_option linter.unusedVariables false
set_option linter.unusedSimpArgs false
namespace Go.Proofs.YtgmapjgodibchaaGreatDoor
open Go.RowKit
set_option maxHeartbeats 400000
theorem oneCell_ints (l:List Int):∀ u ∈ l.map (Value.int .i64),u.oneCell' = true:=by
 intro u hu;obtain⟨n,_,rfl⟩:=List.mem_map.1 hu
 rfl
theorem grow_ints {w:World} {base E:Nat} {v:Value} {l:List Int} (h:w.ownsRow base E 1 v l.length (l.map (Value.int .i64))):Grow w base E 1 v l.length (l.map intT) []:=by
 refine⟨⟨_,h,?_⟩,List.nodup_nil,fun b h=>by simp at h,fun g _=>by simp⟩;have:=RepV.lits (w:=w) (l.map (Value.int .i64));rw[List.map_map] at this;exact this
theorem own_empty (w:World) (E:Nat):(w.alloc (.cells #[] E)).ownsRow w.heap.size E 1 (II (some ⟨w,0,none⟩) 0 0) 0 [] :=
 ⟨rfl,Or.inr ⟨w.heap.size,0,#[],rfl,Nat.le_refl _,by show (w.heap.push _)[w.heap.size]? = _;simp,Nat.le_refl _,by unfold maxLen;omega,rfl,rfl⟩⟩
theorem grow_empty (w:World) (E:Nat):Grow (w.alloc (.cells #[] E)) w.heap.size E 1 (II (some ⟨w,0,none⟩) 0 0) 0 [] [] :=
 ⟨⟨[],own_empty w E,rfl⟩,List.nodup_nil,fun b h=>by simp at h,fun g _=>by simp⟩
theorem l00Own_any (l:List Int) (v:Value) (w:World) (h:Rd w w (zai l) v) (hn:l.length≤1048576) :
  Calls Tryz.prog 92 #[v] w fun e w'=>∃ a' c' fp,e=.returned (II a' l.length c')∧IJ w w w'∧Own w' (zai l) (II a' l.length c') fp∧In w w'.heap.size fp:=by
 obtain⟨i0,hi0,hz0,hz1,hz2⟩:=info_parts infoI;obtain⟨a,c,rfl,hnc,hcm,_⟩:=h.ints;have hrd:Reads w w.heap.size 1 a l.length (l.map (Value.int .i64)):=Rd.reads1 (g:=Value.int .i64) (by rw[zai] at h;exact h);clear h;have h1:=oneCell_ints l;have HR:=J hrd;have H1:=J h1;clear hrd h1;go_enter Tryz.func92,Tryz.ntmps92;go_wp2_with (at_builtin;refine zdr _ rfl (.tmp 3) (.tmp 4) _ rfl w.heap.size 2 i0 _ 1 8 Tryz.underlying22 hi0 hz0 hz1 hz2 rfl O (II (some ⟨w,0,none⟩) 0 0) 0 [] rfl (own_empty w _) w.heap.size a l.length c (l.map (Value.int .i64)) rfl (HR.out.alloc (Nat.le_refl _) _) H1.out (by simp only[maxLen];omega) O (by simp) ?_;intro v1 w1 hown1 hg1 hat1);have hb1:IJ w w w1:=((Below.refl _ _).alloc (Nat.le_refl _) _).grown hg1 (by simp) (fun k hk=>by simp[Value.ownBlock] at hk;omega);have hgr:Grow w1 w.heap.size 2 1 v1 l.length (l.map intT) []:=grow_ints (by simpa using hown1);obtain⟨a',c',fp,rfl,ho,hi⟩:=hgr.toOwn (lo:=w.heap.size) O In.nil (Nat.le_refl _);clear hown1 hg1 hat1 hgr;go_wp2;go_ret;exact⟨a',c',fp,rfl,hb1,ho,hi⟩
theorem cloneI_any (l:List Int) (v:Value) (w:World) (h:Rd w w (zai l) v) (hn:l.length≤1048576) :
  Calls Tryz.prog 205 #[v] w fun e w'=>∃ a' c' fp,e=.returned (II a' l.length c')∧IJ w w w'∧Own w' (zai l) (II a' l.length c') fp∧In w w'.heap.size fp:=by
 obtain⟨i0,hi0,hz0,hz1,hz2⟩:=info_parts infoI;obtain⟨a,c,rfl,hnc,hcm,hcl⟩:=h.ints;have hrd:Reads w w.heap.size 1 a l.length (l.map (Value.int .i64)):=Rd.reads1 (g:=Value.int .i64) (by rw[zai] at h;exact h);have HR:=J hrd;have H1:=J (oneCell_ints l);clear hrd h
 cases a with
 | none =>
  have hl:l = []:=by
   rcases Nat.eq_zero_or_pos l.length with h0|h0
   ·exact List.eq_nil_of_length_eq_zero h0
   ·obtain⟨b,off,e,_⟩:=hcl h0
    cases e
  subst hl;clear hcl;have heq:=fun (W:World)=>Go.run_eql_slice_nil (P:=Tryz.prog) W 22 2 none 0 c Tryz.underlying22
  go_enter Tryz.func205,Tryz.ntmps205;go_wp2;go_ret;exact⟨none,0,[],rfl,Below.refl _ _,⟨zcf.2 ⟨none,0,0,rfl,rfl,Nat.le_refl _,by unfold maxLen;omega,Or.inl ⟨rfl,rfl⟩⟩,List.nodup_nil,fun b h=>by simp at h⟩,In.nil⟩
 | some ad =>
  clear hcl;have heq:=fun (W:World)=>Go.run_eql_slice_nil (P:=Tryz.prog) W 22 2 (some ad) l.length c Tryz.underlying22
  go_enter Tryz.func205,Tryz.ntmps205;go_wp2_with (at_builtin;refine zdr _ rfl (.tmp 5) (.tmp 6) _ rfl w.heap.size 2 i0 _ 1 8 Tryz.underlying22 hi0 hz0 hz1 hz2 rfl O (II (some ⟨w,0,none⟩) 0 0) 0 [] rfl (own_empty w _) w.heap.size (some ad) l.length c (l.map (Value.int .i64)) rfl (HR.out.alloc (Nat.le_refl _) _) H1.out (by simp only[maxLen];omega) O (by simp) ?_;intro v1 w1 hown1 hg1 hat1);have hb1:IJ w w w1:=((Below.refl _ _).alloc (Nat.le_refl _) _).grown hg1 (by simp) (fun k hk=>by simp[Value.ownBlock] at hk;omega);have hgr:Grow w1 w.heap.size 2 1 v1 l.length (l.map intT) []:=grow_ints (by simpa using hown1);obtain⟨a',c',fp,rfl,ho,hi⟩:=hgr.toOwn (lo:=w.heap.size) O In.nil (Nat.le_refl _);clear hown1 hg1 hat1 hgr;go_wp2;go_ret;exact⟨a',c',fp,rfl,hb1,ho,hi⟩
end Go.Proofs.YtgmapjgodibchaaGreatDoor
