/- Contracts: domains of problems, for the program and for the reference. Conditions: bounded lengths. -/
import Derived.Test.YtgmapjgodibchaaGreatDoorText
import Derived.Deep.RegionHeld3
set_option linter.unusedVariables false
set_option linter.unusedSimpArgs false
namespace Go.Proofs.YtgmapjgodibchaaGreatDoor
open Go.RowKit
theorem sizL_ints (l:List Int):sizL (l.map intT)=0:=by
 induction l with
 | nil=>rfl
 | cons x l ih=>simp only[List.map_cons,sizL,ih,intT,siz]
theorem zcb (l:List Int):siz (zai l)=l.length:=by rw[zai,siz,sizL_ints];simp
theorem sz_Int64S (l:List Int) (v:Value) (B:Nat) (left:Int) (w:World) (h:Rd B w (zai l) v) (hB:B≤w.heap.size) (hl:0≤left) (hl2:left≤1048576) :
  Calls Tryz.prog 35 #[v,I left] w (SzPost (siz (zai l)) left w) :=
 (szInt64S_any l v B left w h hl hl2).mono fun e w' ⟨he,hw⟩=>by subst hw;rw[zcb];exact SzPost.of_left he (Below.refl _ _)
theorem to_Int64S (l:List Int) (v:Value) (w:World) (h:Rd w w (zai l) v) (hn:siz (zai l)≤1048576) :
  Calls Tryz.prog 46 #[v] w fun e w'=>∃ a' c' fp,e=.returned (II a' l.length c')∧IJ w w w'∧Own w' (zai l) (II a' l.length c') fp∧In w w'.heap.size fp :=
 toInt64S_any l v w h (by rw[zcb] at hn;exact hn)
theorem zfa (l:List Int) (v v':Value) (B:Nat) (w:World) (h:Rd B w (zai l) v) (h':Rd B w (zai l) v') (hB:B≤w.heap.size) (hn:siz (zai l)≤1099511627776) :
  Calls Tryz.prog 25 #[v,v'] w fun e w'=>e=.returned (.bool true)∧IJ w w w' :=
 eqInt64S_any l v v' B w h h' hB (by rw[zcb] at hn;exact hn)
theorem mark_Int64S (l:List Int) (v:Value) (fp:List Nat) (k0 lo:Nat) (w:World) (h:Own w (zai l) v fp) (hin:In lo w fp) (hs:siz (zai l)≤1099511627776) (hk0:k0+cnt (zai l)≤1099511627776) :
  Calls Tryz.prog 28 #[v,I k0] w fun e w'=>e=.returned (I ((k0+cnt (zai l):Nat):Int))∧Own w' (mkT (zai l) k0) v fp∧Chg fp w w':=by
 rw[ze0] at hk0 ⊢;exact markInt64S_any l v fp k0 w h hk0
theorem held_Int64S (l:List Int) (v:Value) (B:Nat) (k0:Nat) (w:World) (h:Rd B w (mkT (zai l) k0) v) (hB:B≤w.heap.size) (hs:siz (zai l)≤1099511627776) (hk0:k0+cnt (zai l)≤1099511627776) :
  Calls Tryz.prog 29 #[v,I k0] w fun e w'=>e=.returned (I ((k0+cnt (zai l):Nat):Int))∧IJ w w w':=by
 rw[ze0] at hk0 ⊢;exact heldInt64S_any l v B k0 w h hB hk0
theorem zdg (l:List Int) (v:Value) (fp:List Nat) (k lo:Nat) (K:Int) (w:World) (h:Own w (zai l) v fp) (hin:In lo w fp) (hs:siz (zai l)≤1099511627776) (hK:K=(k:Int)) (hk0:k+cnt (zai l)≤1099511627776) (hk1:0<k) :
  Calls Tryz.prog 28 #[v,I K] w fun e w'=>e=.returned (I (K+(cnt (zai l):Int)))∧Own w' (mkT (zai l) k) v fp∧Chg fp w w':=by
 subst hK;refine (mark_Int64S l v fp k lo w h hin hs hk0).mono fun e w' ⟨he,h1,h2⟩=>⟨?_,h1,h2⟩
 rw[he,Int.natCast_add]
theorem heldI_Int64S (l:List Int) (v:Value) (B k:Nat) (K:Int) (w:World) (h:Rd B w (mkT (zai l) k) v) (hB:B≤w.heap.size) (hs:siz (zai l)≤1099511627776) (hK:K=(k:Int)) (hk0:k+cnt (zai l)≤1099511627776) (hk1:0<k) :
  Calls Tryz.prog 29 #[v,I K] w fun e w'=>e=.returned (I (K+(cnt (zai l):Int)))∧IJ w w w':=by
 subst hK;refine (held_Int64S l v B k w h hB hs hk0).mono fun e w' ⟨he,h1⟩=>⟨?_,h1⟩
 rw[he,Int.natCast_add]
def inB (n a b:Int):Bool:=decide (a≤n)&&decide (n≤b)
theorem zat {n a b:Int} : inB n a b=true↔a≤n∧n≤b:=by simp[inB]
theorem zao (n a b:Int) (w:World) :
  Calls Tryz.prog 54 #[I n,I a,I b] w fun e w'=>e=.returned (.bool (inB n a b))∧w=w':=by
 by_cases h1:a≤n
 ·have e:inB n a b=decide (n≤b):=by unfold inB;simp[h1]
  rw[e];clear e;go_enter Tryz.func54,Tryz.ntmps54;go_wp2;go_ret;exact⟨rfl,rfl⟩
 ·have e:inB n a b=false:=by unfold inB;simp[h1]
  rw[e];clear e;go_enter Tryz.func54,Tryz.ntmps54;go_wp2;go_ret;exact⟨rfl,rfl⟩
theorem zaq (n a b:Int) (w:World) :
  Calls Tryz.prog 89 #[I n,I a,I b] w fun e w'=>e=.returned (.bool (inB n a b))∧w=w':=by
 by_cases h1:a≤n
 ·have e:inB n a b=decide (n≤b):=by unfold inB;simp[h1]
  rw[e];clear e;go_enter Tryz.func89,Tryz.ntmps89;go_wp2;go_ret;exact⟨rfl,rfl⟩
 ·have e:inB n a b=false:=by unfold inB;simp[h1]
  rw[e];clear e;go_enter Tryz.func89,Tryz.ntmps89;go_wp2;go_ret;exact⟨rfl,rfl⟩
def zbk {α:Type} (p:α→Bool) (l:List α):Int:=match l.findIdx? p with|some i=>i|none=>-1
theorem zce {α:Type} (p:α→Bool) (l:List α) (k:Nat) (h:k<l.length):(l.take (k+1)).any p=((l.take k).any p || p l[k]):=by
 rw[List.take_succ_eq_append_getElem h,List.any_append];simp
theorem zcy {α:Type} (p:α→Bool) (l:List α) (k:Nat) (h:k<l.length) (hp:p l[k]=true) (hb:(l.take k).any p=false):zbk p l=k:=by
 have:l.findIdx? p=some k:=by
  rw[List.findIdx?_eq_some_iff_getElem];refine⟨h,hp,fun j hj=>?_⟩;have hm:l[j] ∈ l.take k:=by
   rw[List.mem_take_iff_getElem];exact⟨j,O,rfl⟩
  have:=List.any_eq_false.1 hb l[j] hm
  simpa using this
 unfold zbk;rw[this]
theorem zcd {α:Type} (p:α→Bool) (l:List α) (hb:l.any p=false):zbk p l = -1:=by
 have:l.findIdx? p=none:=by
  rw[List.findIdx?_eq_none_iff];intro x hx;have:=List.any_eq_false.1 hb x hx
  simpa using this
 unfold zbk;rw[this]
theorem firstIdx_nonneg' {α:Type} (p:α→Bool) (l:List α):decide (0≤zbk p l)=l.any p:=by
 unfold zbk
 cases h:l.findIdx? p with
 | none =>
  have:l.any p=false:=by
   rw[List.any_eq_false];intro x hx;have:=List.findIdx?_eq_none_iff.1 h x hx;simp[this]
  rw[this];rfl
 | some i =>
  have:l.any p=true:=by
   rw[List.any_eq_true];obtain⟨hi,hp,_⟩:=List.findIdx?_eq_some_iff_getElem.1 h;exact⟨l[i],List.getElem_mem hi,hp⟩
  rw[this];simp
theorem indexFuncI_any (l:List Int) (p:Int→Bool) (fn:FuncId) (cap:List Value) (v:Value) (B:Nat) (w:World) (h:Rd B w (zai l) v) (hB:B≤w.heap.size) (hn:l.length≤1099511627776)
  (hcf:∀ (args:Array Value) (W:World),(callFunc fn args).run Tryz.prog W=.ok (.enter fn args) W)
  (hf:∀ x ∈ l,∀ W:World,IJ w w W→Calls Tryz.prog fn (Value.int .i64 x::cap).toArray W fun e W'=>e=.returned (.bool (p x))∧IJ W W W') :
  Calls Tryz.prog 185 #[v,.func (.func fn) #[] cap.toArray] w fun e w'=>e=.returned (I (zbk p l))∧IJ w w w':=by
 obtain⟨a,c,rfl,hnc,hcm,hcells⟩:=h.ints;clear h;have hnb:(l.length:Int)≤1099511627776:=O
 have HF:=J hf;clear hf;go_enter Tryz.func185,Tryz.ntmps185;go_wp2;go_loopw [8] (fun i wr=>∃ (k:Nat),k≤l.length∧i=I k∧(l.take k).any p=false∧IJ w w wr) (fun i wr=>l.length-(intOf i).toNat)
 case atStart=>exact⟨0,Nat.zero_le _,rfl,by simp,Below.refl _ _⟩
 case round =>
  obtain⟨k,hk,rfl,hno,hb⟩:=hrel;have HN:=J hno;clear hno
  by_cases hlt:k<l.length
  ·obtain⟨b,off,rfl,hbl,hat⟩:=hcells O
   have s0:=hat k hlt;rw[← hb.cell (p:=⟨b,_,none⟩) (show b<w.heap.size by omega)] at s0;have HB:=J hb;clear hcells hat hb;go_wp2_with fail;refine (HF.out l[k] (List.getElem_mem hlt) _ HB.out).mono ?_;rintro e w1 ⟨rfl,hb1⟩;have HB1:=J (HB.out.trans (hb1.mono HB.out.size));clear hb1
   by_cases hp:p l[k]=true
   ·go_wp2
    go_ret;exact⟨by rw[zcy p l k hlt hp HN.out];rfl,HB1.out⟩
   ·have hp':p l[k]=false:=by simpa using hp
    clear hp;go_wp2;go_roundw
    case rel=>exact⟨k+1,O,by go_num,by rw[zce p l k hlt,HN.out,hp'];rfl,HB1.out⟩
    case measure=>simp[intOf];omega
  ·obtain rfl:k=l.length:=O
   clear hcells;go_wp2;go_ret;have:=HN.out;rw[List.take_length] at this;exact⟨by rw[zcd p l this];rfl,hb⟩
theorem containsFuncI_any (l:List Int) (p:Int→Bool) (fn:FuncId) (cap:List Value) (v:Value) (B:Nat) (w:World) (h:Rd B w (zai l) v) (hB:B≤w.heap.size) (hn:l.length≤1099511627776)
  (hcf:∀ (args:Array Value) (W:World),(callFunc fn args).run Tryz.prog W=.ok (.enter fn args) W)
  (hf:∀ x ∈ l,∀ W:World,IJ w w W→Calls Tryz.prog fn (Value.int .i64 x::cap).toArray W fun e W'=>e=.returned (.bool (p x))∧IJ W W W') :
  Calls Tryz.prog 137 #[v,.func (.func fn) #[] cap.toArray] w fun e w'=>e=.returned (.bool (l.any p))∧IJ w w w':=by
 have HC:=J (indexFuncI_any l p fn cap v B w h hB hn hcf hf);have HE:=J (firstIdx_nonneg' p l);clear hf h hcf;generalize l.any p=r at *;go_enter Tryz.func137,Tryz.ntmps137;go_wp2_with fail;refine (HC.out).mono ?_;rintro e w1 ⟨rfl,hb1⟩;have he:=HE.out;generalize zbk p l=m at *;go_wp2;go_ret;exact⟨rfl,hb1⟩
theorem zdo (l:List Int) (lo hi:Int) (v:Value) (B:Nat) (w:World) (h:Rd B w (zai l) v) (hB:B≤w.heap.size) (hn:l.length≤1099511627776) :
  Calls Tryz.prog 100 #[v,I lo,I hi] w fun e w'=>e=.returned (.bool (l.all fun n=>inB n lo hi))∧IJ w w w':=by
 have b0:IJ w w ((w.alloc (.cells #[I lo] 2)).alloc (.cells #[I hi] 2)):=((Below.refl _ _).alloc (Nat.le_refl _) _).alloc (by simp) _
 have HC:=J (containsFuncI_any l (fun n=>!inB n lo hi) 138 [.pointer (some ⟨w,0,none⟩),.pointer (some ⟨w.heap.size+1,0,none⟩)] v B ((w.alloc (.cells #[I lo] 2)).alloc (.cells #[I hi] 2)) (h.below (b0.mono hB)) (by simp<;>omega) hn (fun _ _=>by kernel_rfl) (fun x _ W hW=>by
  have c1:W.cell? ⟨w,0,none⟩=some (I lo):=by rw[hW.cell (p:=⟨w,0,none⟩) (by simp<;>omega)];simp[go_sem]
  have c2:W.cell? ⟨w.heap.size+1,0,none⟩=some (I hi):=by rw[hW.cell (p:=⟨w.heap.size+1,0,none⟩) (by simp)];simp[go_sem]
  clear hW;go_enter Tryz.func138,Tryz.ntmps138;go_wp2_with (go_at_call 54;refine (zao _ _ _ _).mono ?_;rintro e w' ⟨rfl,rfl⟩);go_ret
  exact⟨rfl,Below.refl _ _⟩))
 have B0:=J b0;have he:(!(l.any fun n=>!inB n lo hi))=(l.all fun n=>inB n lo hi):=by
  rw[List.not_any_eq_all_not];simp
 have HE:=J he;clear he;clear b0 h;generalize (l.any fun n=>!inB n lo hi)=r at *;generalize (l.all fun n=>inB n lo hi)=r2 at *;go_enter Tryz.func100,Tryz.ntmps100;go_wp2_with fail;refine (HC.out).mono ?_;rintro e w1 ⟨rfl,hb1⟩;go_wp2;go_ret;exact⟨by rw[← HE.out];rfl,B0.out.trans (hb1.mono (by simp<;>omega))⟩
def gi (l:List Int) (i:Nat):Int:=l.getD i 0
theorem gi_eq {l:List Int} {i:Nat} (h:i<l.length):l[i]=gi l i:=by simp[gi,h]
theorem zb5 {P:Program} {f:FuncId} {args:Array Value} {w:World} {n:Nat} {v:Value}
  (h:Calls P f args (w.drewN n) fun e w'=>e=.returned v∧w.drewN n=w'):Calls P f args (w.drewN n) fun e w''=>e=.returned v∧∃ m,w'' = w.drewN m :=
 h.mono fun _ _ ⟨he,hm⟩=>⟨he,n,hm.symm⟩
theorem all_iff (l:List Int) (lo hi:Int):(l.all fun n=>inB n lo hi)=true↔∀ i,i<l.length→inB (gi l i) lo hi=true:=by
 rw[List.all_eq_true]
 constructor
 ·intro h i hi
  have:=h l[i] (List.getElem_mem hi)
  rwa [gi_eq] at this
 ·intro h x hx
  obtain⟨i,hi,rfl⟩:=List.getElem_of_mem hx;have:=h i hi
  rwa [← gi_eq hi] at this
end Go.Proofs.YtgmapjgodibchaaGreatDoor
