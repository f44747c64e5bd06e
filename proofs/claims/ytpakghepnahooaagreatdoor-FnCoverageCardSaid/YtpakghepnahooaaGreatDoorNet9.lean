/- Contract: a copy of a network, for the program. Conditions: bounded lengths. -/
import Derived.WalkSpells
import Derived.Lib.LazyBuf
import Derived.Test.YtpakghepnahooaaGreatDoorHProtected
import Derived.Test.YtpakghepnahooaaGreatDoorTre2
set_option linter.unusedVariables false
set_option linter.unusedSimpArgs false
namespace Go.Proofs.YtpakghepnahooaaGreatDoor
open Go.RowKit
theorem Q3u {p:Prop} (h:p:=by simp only[maxLen];omega):p:=h
theorem Q1k {p:Prop} (h:p:=by
 obtain rfl:l.length=n:=Nat.eq_of_mul_eq_mul_right Q48 hl
 exact⟨a,c,xs,hv,hnc,hcm,hrd,hx,h1⟩):p:=h
set_option maxHeartbeats 400000
theorem oneCell_ints (l:List Int):∀ u ∈ l.map (Value.int .i64),u.oneCell' = true:=by
 intro u hu;obtain⟨n,_,rfl⟩:=List.mem_map.1 hu
 rfl
theorem grow_ints {w:World} {base E:Nat} {v:Value} {l:List Int} (h:w.ownsRow base E 1 v l.length (l.map (Value.int .i64))):Grow w base E 1 v l.length (l.map intT) []:=by
 refine⟨⟨_,h,?_⟩,List.nodup_nil,fun b h=>by simp at h,fun g _=>by simp⟩;have:=RepV.lits (w:=w) (l.map (Value.int .i64));rw[List.map_map] at this;exact this
theorem own_empty (w:World) (E:Nat):(w.alloc (.cells #[] E)).ownsRow w.heap.size E 1 (IZ (some ⟨w,0,none⟩) 0 0) 0 [] :=
 ⟨rfl,Or.inr ⟨w.heap.size,0,#[],rfl,Nat.le_refl _,by show (w.heap.push _)[w.heap.size]? = _;simp,Nat.le_refl _,by unfold maxLen;omega,rfl,rfl⟩⟩
theorem l00Own_any (l:List Int) (v:Value) (w:World) (h:Rd w w (zam l) v) (hn:l.length≤1048576) :
  Calls Tryz.prog 223 #[v] w fun e w'=>∃ a' c' fp,e=.returned (IZ a' l.length c')∧OI w w w'∧Own w' (zam l) (IZ a' l.length c') fp∧In w w'.heap.size fp:=by
 obtain⟨i0,hi0,hz0,hz1,hz2⟩:=info_parts infoI;obtain⟨a,c,rfl,hnc,hcm,_⟩:=h.ints;have hrd:Reads w w.heap.size 1 a l.length (l.map (Value.int .i64)):=Rd.reads1 (g:=Value.int .i64) (by rw[zam] at h;exact h);clear h;have h1:=oneCell_ints l;have HR:=IJ hrd;have H1:=IJ h1;clear hrd h1;go_enter Tryz.func223,Tryz.ntmps223;go_wp2_with (at_builtin;refine zb1 _ rfl (.tmp 3) (.tmp 4) _ rfl w.heap.size 2 i0 _ 1 8 Tryz.underlying24 hi0 hz0 hz1 hz2 rfl II (IZ (some ⟨w,0,none⟩) 0 0) 0 [] rfl (own_empty w _) w.heap.size a l.length c (l.map (Value.int .i64)) rfl (HR.out.alloc (Nat.le_refl _) _) H1.out Q3u II Q4a ?_;intro v1 w1 hown1 hg1 hat1);have hb1:OI w w w1:=((Below.refl _ _).alloc (Nat.le_refl _) _).grown hg1 Q4a (fun k hk=>by simp[Value.ownBlock] at hk;omega);have hgr:Grow w1 w.heap.size 2 1 v1 l.length (l.map intT) []:=grow_ints (by simpa using hown1);obtain⟨a',c',fp,rfl,ho,hi⟩:=hgr.toOwn (lo:=w.heap.size) II In.nil (Nat.le_refl _);clear hown1 hg1 hat1 hgr;go_wp2;go_ret;exact⟨a',c',fp,rfl,hb1,ho,hi⟩
theorem cloneI_any (l:List Int) (v:Value) (w:World) (h:Rd w w (zam l) v) (hn:l.length≤1048576) :
  Calls Tryz.prog 184 #[v] w fun e w'=>∃ a' c' fp,e=.returned (IZ a' l.length c')∧OI w w w'∧Own w' (zam l) (IZ a' l.length c') fp∧In w w'.heap.size fp:=by
 obtain⟨i0,hi0,hz0,hz1,hz2⟩:=info_parts infoI;obtain⟨a,c,rfl,hnc,hcm,hcl⟩:=h.ints;have hrd:Reads w w.heap.size 1 a l.length (l.map (Value.int .i64)):=Rd.reads1 (g:=Value.int .i64) (by rw[zam] at h;exact h);have HR:=IJ hrd;have H1:=IJ (oneCell_ints l);clear hrd h
 cases a with
 | none =>
  have hl:l = []:=by
   rcases Nat.eq_zero_or_pos l.length with h0|h0
   ·exact List.eq_nil_of_length_eq_zero h0
   ·obtain⟨b,off,e,_⟩:=hcl h0
    cases e
  subst hl;clear hcl;have heq:=fun (W:World)=>Go.run_eql_slice_nil (P:=Tryz.prog) W 24 2 none 0 c Tryz.underlying24
  go_enter Tryz.func184,Tryz.ntmps184;go_wp2;go_ret;exact⟨none,0,[],rfl,Below.refl _ _,⟨zb7.2 ⟨none,0,0,rfl,rfl,Nat.le_refl _,by unfold maxLen;omega,Or.inl ⟨rfl,rfl⟩⟩,List.nodup_nil,fun b h=>by simp at h⟩,In.nil⟩
 | some ad =>
  clear hcl;have heq:=fun (W:World)=>Go.run_eql_slice_nil (P:=Tryz.prog) W 24 2 (some ad) l.length c Tryz.underlying24
  go_enter Tryz.func184,Tryz.ntmps184;go_wp2_with (at_builtin;refine zb1 _ rfl (.tmp 5) (.tmp 6) _ rfl w.heap.size 2 i0 _ 1 8 Tryz.underlying24 hi0 hz0 hz1 hz2 rfl II (IZ (some ⟨w,0,none⟩) 0 0) 0 [] rfl (own_empty w _) w.heap.size (some ad) l.length c (l.map (Value.int .i64)) rfl (HR.out.alloc (Nat.le_refl _) _) H1.out Q3u II Q4a ?_;intro v1 w1 hown1 hg1 hat1);have hb1:OI w w w1:=((Below.refl _ _).alloc (Nat.le_refl _) _).grown hg1 Q4a (fun k hk=>by simp[Value.ownBlock] at hk;omega);have hgr:Grow w1 w.heap.size 2 1 v1 l.length (l.map intT) []:=grow_ints (by simpa using hown1);obtain⟨a',c',fp,rfl,ho,hi⟩:=hgr.toOwn (lo:=w.heap.size) II In.nil (Nat.le_refl _);clear hown1 hg1 hat1 hgr;go_wp2;go_ret;exact⟨a',c',fp,rfl,hb1,ho,hi⟩
theorem DMode.one (l:List DMode):∀ t ∈ l.flatMap DMode.tr,oneT t:=by
 intro t ht;obtain⟨x,_,hx⟩:=List.mem_flatMap.1 ht;simp only[DMode.tr,List.mem_cons,List.not_mem_nil,or_false] at hx
 rcases hx with rfl|rfl<;>first|rfl|trivial
theorem DMode.lits (l:List DMode):∀ t ∈ l.flatMap DMode.tr,∃ v,t=.lit v:=by
 intro t ht;obtain⟨x,_,hx⟩:=List.mem_flatMap.1 ht;simp only[DMode.tr,List.mem_cons,List.not_mem_nil,or_false] at hx
 rcases hx with rfl|rfl<;>exact⟨_,rfl⟩
theorem grow_Mode {B:Nat} {w w':World} {base E n:Nat} {v:Value} {l:List DMode} {xs:List Value} (h:w'.ownsRow base E 2 v n xs) (hx:RdV B w (l.flatMap DMode.tr) xs):Grow w' base E 2 v n (l.flatMap DMode.tr) []:=grow_flat h hx (DMode.lits l)
theorem DMode.raw {B:Nat} {w:World} {l:List DMode} {v:Value} (h:Rd B w (DMode.sT l) v):∃ a c xs,v=IZ a l.length c∧l.length≤c∧c≤maxLen∧Reads w B 2 a l.length xs∧RdV B w (l.flatMap DMode.tr) xs∧∀ u ∈ xs,u.oneCell' = true:=by
 obtain⟨a,n,c,xs,hv,hl,hnc,hcm,hrd,hx,h1⟩:=Rd.raw h Q48 (DMode.one l);rw[zc6 DMode.tr 2 DMode.tr_len] at hl;exact Q1k
theorem DSite.one (l:List DSite):∀ t ∈ l.flatMap DSite.tr,oneT t:=by
 intro t ht;obtain⟨x,_,hx⟩:=List.mem_flatMap.1 ht;simp only[DSite.tr,List.mem_cons,List.not_mem_nil,or_false] at hx
 rcases hx with rfl|rfl|rfl|rfl<;>first|rfl|trivial
theorem DSite.lits (l:List DSite):∀ t ∈ l.flatMap DSite.tr,∃ v,t=.lit v:=by
 intro t ht;obtain⟨x,_,hx⟩:=List.mem_flatMap.1 ht;simp only[DSite.tr,List.mem_cons,List.not_mem_nil,or_false] at hx
 rcases hx with rfl|rfl|rfl|rfl<;>exact⟨_,rfl⟩
theorem grow_Site {B:Nat} {w w':World} {base E n:Nat} {v:Value} {l:List DSite} {xs:List Value} (h:w'.ownsRow base E 4 v n xs) (hx:RdV B w (l.flatMap DSite.tr) xs):Grow w' base E 4 v n (l.flatMap DSite.tr) []:=grow_flat h hx (DSite.lits l)
theorem DSite.raw {B:Nat} {w:World} {l:List DSite} {v:Value} (h:Rd B w (DSite.sT l) v):∃ a c xs,v=IZ a l.length c∧l.length≤c∧c≤maxLen∧Reads w B 4 a l.length xs∧RdV B w (l.flatMap DSite.tr) xs∧∀ u ∈ xs,u.oneCell' = true:=by
 obtain⟨a,n,c,xs,hv,hl,hnc,hcm,hrd,hx,h1⟩:=Rd.raw h Q48 (DSite.one l);rw[zc6 DSite.tr 4 DSite.tr_len] at hl;exact Q1k
theorem DSector.one (l:List DSector):∀ t ∈ l.flatMap DSector.tr,oneT t:=by
 intro t ht;obtain⟨x,_,hx⟩:=List.mem_flatMap.1 ht;simp only[DSector.tr,List.mem_cons,List.not_mem_nil,or_false] at hx
 rcases hx with rfl|rfl|rfl|rfl|rfl|rfl|rfl|rfl|rfl<;>first|rfl|trivial
theorem DSector.lits (l:List DSector):∀ t ∈ l.flatMap DSector.tr,∃ v,t=.lit v:=by
 intro t ht;obtain⟨x,_,hx⟩:=List.mem_flatMap.1 ht;simp only[DSector.tr,List.mem_cons,List.not_mem_nil,or_false] at hx
 rcases hx with rfl|rfl|rfl|rfl|rfl|rfl|rfl|rfl|rfl<;>exact⟨_,rfl⟩
theorem grow_Sector {B:Nat} {w w':World} {base E n:Nat} {v:Value} {l:List DSector} {xs:List Value} (h:w'.ownsRow base E 9 v n xs) (hx:RdV B w (l.flatMap DSector.tr) xs):Grow w' base E 9 v n (l.flatMap DSector.tr) []:=grow_flat h hx (DSector.lits l)
theorem DSector.raw {B:Nat} {w:World} {l:List DSector} {v:Value} (h:Rd B w (DSector.sT l) v):∃ a c xs,v=IZ a l.length c∧l.length≤c∧c≤maxLen∧Reads w B 9 a l.length xs∧RdV B w (l.flatMap DSector.tr) xs∧∀ u ∈ xs,u.oneCell' = true:=by
 obtain⟨a,n,c,xs,hv,hl,hnc,hcm,hrd,hx,h1⟩:=Rd.raw h Q48 (DSector.one l);rw[zc6 DSector.tr 9 DSector.tr_len] at hl;exact Q1k
def obl (v:Value):List Nat:=v.ownBlock.toList
theorem blk4 {w:World} {B T:Nat} {a b c d:Value} (h:w.heap[B]? = some (.cells #[a,b,c,d] T (0,0))):(w,B,0,a)∧(w,B,1,b)∧(w,B,2,c)∧(w,B,3,d):=by
 simp[World.cell?,h]
theorem blkC {w:World} {B T:Nat} {cs:Array Value} {v:Value} (h:w.heap[B]? = some (.cells cs T (0,0))) (j:Nat) (hj:cs[j]? = some v):w.cell? ⟨B,j,none⟩=some v:=(za9 h j).trans hj
theorem blkF {w:World} {B T:Nat} {cs:Array Value} (h:w.heap[B]? = some (.cells cs T (0,0))) (j:Nat):w.frozen? ⟨B,j,none⟩=false:=zc5 h j
theorem blkS {w:World} {B T:Nat} {cs:Array Value} (h:w.heap[B]? = some (.cells cs T (0,0))) (j:Nat) (v:Value):(w.setCell ⟨B,j,none⟩ v).heap[B]? = some (.cells (cs.setIfInBounds j v) T (0,0)):=row_setCell h j v
theorem blkO {w:World} {B:Nat} {o:Option Obj} (h:w.heap[B]? = o) {p:Addr} (hp:B≠p.block) (v:Value):(w.setCell p v).heap[B]? = o:=(Below.heap_setCell w p v B hp).trans h
theorem blkB {w w':World} {B:Nat} {o:Option Obj} (h:w.heap[B]? = o) (hb:OI w w w') (hl:B<w.heap.size):w'.heap[B]? = o:=(hb.block B hl).trans h
theorem blkN (w:World) (cs:Array Value) (T:Nat):(w.alloc (.cells cs T)).heap[w.heap.size]? = some (.cells cs T (0,0)):=by show (w.heap.push _)[w.heap.size]? = _;simp
theorem blkA {w:World} {B:Nat} {o:Option Obj} (h:w.heap[B]? = o) (hl:B<w.heap.size) (x:Obj):(w.alloc x).heap[B]? = o:=(Below.heap_alloc w x B hl).trans h
end Go.Proofs.YtpakghepnahooaaGreatDoor
