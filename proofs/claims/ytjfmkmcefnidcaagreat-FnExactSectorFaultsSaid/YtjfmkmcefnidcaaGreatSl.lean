/- Contracts of small functions: within, l00In, and the slices package's searches over slices of integers. Conditions: bounded lengths. -/
import Derived.Test.YtjfmkmcefnidcaaGreatInts
import Derived.Deep.RegionHeld3
namespace Go.Proofs.YtjfmkmcefnidcaaGreat
set_option maxHeartbeats 1000000
set_option maxRecDepth 100000
open Go.RowKit
set_option linter.unusedVariables false
theorem eqInt64SS_any (l:List (List Int)) (v v':Value) (B:Nat) (w:World) (h:Rd B w (intssT l) v) (h':Rd B w (intssT l) v') (hB:B≤w.heap.size) (hn:l.length≤1099511627776) (hm:sumLen l≤1099511627776) :
  Calls Tryz.prog 60 #[v,v'] w fun e w'=>e=.returned (.bool true)∧Below w.heap.size w w':=by
 have hnb:(l.length:Int)≤1099511627776:=by omega
 obtain⟨a,c,rfl,hnc,hcm,hcells⟩:=h.intss
 obtain⟨a',c',rfl,hnc',hcm',hcells'⟩:=h'.intss
 clear h h'
 have hne:((l.length:Int) != l.length)=false:=by simp
 go_enter Tryz.func60,Tryz.ntmps60
 go_wp2
 clear hne
 go_loopw [5] (fun i wr=>∃ (k:Nat),k≤l.length∧i=.int .i64 k∧Below w.heap.size w wr) (fun i wr=>l.length-(intOf i).toNat)
 case atStart=>exact⟨0,Nat.zero_le _,rfl,Below.refl _ _⟩
 case round =>
  obtain⟨k,hk,rfl,hb⟩:=hrel
  by_cases hlt:k<l.length
  ·obtain⟨b,off,rfl,hbl,hat⟩:=hcells (by omega)
   obtain⟨b',off',rfl,hbl',hat'⟩:=hcells' (by omega)
   obtain⟨u,s0,hu⟩:=hat k hlt
   obtain⟨u',s1,hu'⟩:=hat' k hlt
   rw[← hb.cell (p:=⟨b,_,none⟩) (show b<w.heap.size by omega)] at s0
   rw[← hb.cell (p:=⟨b',_,none⟩) (show b' < w.heap.size by omega)] at s1
   have r0:Rd B wr (intsT l[k]) u:=hu.below (hb.mono hB)
   have r1:Rd B wr (intsT l[k]) u':=hu'.below (hb.mono hB)
   have hB':B≤wr.heap.size:=by have:=hb.size;omega
   have hsl:=sumLen_get_le l k hlt
   have i1:(0:Int)≤(k:Int):=by omega
   have i2:(k:Int)<(l.length:Int):=by omega
   clear hcells hat hcells' hat' hu hu'
   have HB:=Lib.hid hb
   clear hb
   go_wp2
   go_still_tail 8,(by kernel_rfl)
   change wpList _ _ _ _ _ wr.drew
   go_wp2_with (go_at_call 115;refine (eqInt64S_any l[k] _ _ B _ r0.drew r1.drew hB' (by omega)).mono ?_;rintro e w1 ⟨rfl,hb1⟩)
   go_roundw
   case rel=>exact⟨k+1,by omega,by go_num,HB.out.drew.trans (hb1.mono HB.out.size)⟩
   case measure=>simp[intOf];omega
  ·obtain rfl:k=l.length:=by omega
   clear hcells hcells'
   go_wp2
   go_ret
   exact⟨rfl,hb⟩
theorem markInt64SS_any (l:List (List Int)) (v:Value) (fp:List Nat) (k0 lo:Nat) (w:World) (h:Own w (intssT l) v fp) (hin:In lo w.heap.size fp) (hn:l.length≤1099511627776) (hk0:k0+sumLen l≤1099511627776) :
  Calls Tryz.prog 66 #[v,.int .i64 k0] w fun e w'=>e=.returned (.int .i64 ((k0+sumLen l:Nat):Int))∧Own w' (mkT (intssT l) k0) v fp∧Chg fp w w':=by
 obtain⟨a,c,hv,hnc,hcm⟩:=h.form1
 rw[intssT_flat] at h ⊢
 subst hv
 have hnb:(l.length:Int)≤1099511627776:=by omega
 go_enter Tryz.func66,Tryz.ntmps66
 go_wp2
 go_loopw [1,5] (fun kk i wr=>∃ (j:Nat),j≤l.length∧i=.int .i64 j∧kk=.int .i64 ((k0+sumLen (l.take j):Nat):Int)∧Own wr (mid (fun x=>[intsT x]) 1 l k0 j) (.slice a l.length c) fp∧Chg fp w wr) (fun _ i wr=>l.length-(intOf i).toNat)
 case atStart=>exact⟨0,Nat.zero_le _,rfl,by simp[sumLen],by rw[mid_zero];exact h,Chg.refl _ _⟩
 case round =>
  obtain⟨j,hj,rfl,rfl,hown,hchg⟩:=hrel
  by_cases hlt:j<l.length
  ·rw[mid_at _ _ _ _ _ hlt] at hown
   obtain⟨b,off,n',c',x,g,hv,hbf,_,hcell,hox,hgf,hset⟩:=hown.partAt (t:=intsT l[j])
   rw[mkL_length,flat_length _ 1 (fun _=>rfl),List.length_take,Nat.min_eq_left hj,Nat.mul_one] at hcell
   injection hv with hv1 hv2 hv3
   subst hv1
   have hsum:=sumLen_take_succ l j hlt
   have hle:=sumLen_take_le l (j+1)
   have HS:=Lib.hid hsum
   have hkk:k0+sumLen (l.take j)+l[j].length≤1099511627776:=by omega
   clear hv2 hv3 hsum hown
   go_wp2_with (go_at_call 123;refine (markInt64S_any l[j] _ g _ _ hox hkk).mono ?_;rintro e w1 ⟨rfl,ho1,hc1⟩)
   go_roundw
   case rel =>
    refine⟨j+1,by omega,by go_num,by rw[HS.out];go_num,?_,hchg.trans (hc1.mono hgf)⟩
    rw[mid_succ _ _ _ _ _ hlt,cntL_intss]
    have em:mkL [intsT l[j]] (k0+sumLen (l.take j)) = [mkT (intsT l[j]) (k0+sumLen (l.take j))]:=by simp[mkL]
    rw[em]
    refine hset w1 _ (fun y hy hyg=>hc1.block y ?_ hyg) ho1
    have:=(hin y hy).2
    have:=hchg.size
    omega
   case measure=>simp[intOf];omega
  ·obtain rfl:j=l.length:=by omega
   go_wp2
   go_ret
   rw[mid_end] at hown
   exact⟨ret_int (by rw[List.take_length]),hown,hchg⟩
theorem sizL_ints (l:List Int):sizL (l.map intT)=0:=by
 induction l with
 | nil=>rfl
 | cons x l ih=>simp only[List.map_cons,sizL,ih,intT,siz]
theorem siz_ints (l:List Int):siz (intsT l)=l.length:=by rw[intsT,siz,sizL_ints];simp
theorem sizL_intss (l:List (List Int)):sizL (l.map intsT)=sumLen l:=by
 induction l with
 | nil=>rfl
 | cons x l ih=>simp only[List.map_cons,sizL,ih,siz_ints];simp[sumLen]
theorem siz_intss (l:List (List Int)):siz (intssT l)=l.length+sumLen l:=by rw[intssT,siz,sizL_intss];simp
theorem cnt_intss (l:List (List Int)):cnt (intssT l)=sumLen l:=by rw[intssT_flat,cnt,cntL_intss]
theorem sz_Int64S (l:List Int) (v:Value) (B:Nat) (left:Int) (w:World) (h:Rd B w (intsT l) v) (hB:B≤w.heap.size) (hl:0≤left) (hl2:left≤1048576) :
  Calls Tryz.prog 83 #[v,.int .i64 left] w (SzPost (siz (intsT l)) left w) :=
 (szInt64S_any l v B left w h hl hl2).mono fun e w' ⟨he,hw⟩=>by subst hw;rw[siz_ints];exact SzPost.of_left he (Below.refl _ _)
theorem sz_Int64SS (l:List (List Int)) (v:Value) (B:Nat) (left:Int) (w:World) (h:Rd B w (intssT l) v) (hB:B≤w.heap.size) (hl:0≤left) (hl2:left≤1048576) :
  Calls Tryz.prog 43 #[v,.int .i64 left] w (SzPost (siz (intssT l)) left w) :=
 (szInt64SS_any l v B left w h hB hl hl2).mono fun e w' ⟨he,hb⟩=>by rw[siz_intss];exact SzPost.of_left he hb
theorem to_Int64S (l:List Int) (v:Value) (w:World) (h:Rd w.heap.size w (intsT l) v) (hn:siz (intsT l)≤1048576) :
  Calls Tryz.prog 99 #[v] w fun e w'=>∃ a' c' fp,e=.returned (.slice a' l.length c')∧Below w.heap.size w w'∧Own w' (intsT l) (.slice a' l.length c') fp∧In w.heap.size w'.heap.size fp :=
 toInt64S_any l v w h (by rw[siz_ints] at hn;exact hn)
theorem to_Int64SS (l:List (List Int)) (v:Value) (w:World) (h:Rd w.heap.size w (intssT l) v) (hn:siz (intssT l)≤1048576) :
  Calls Tryz.prog 51 #[v] w fun e w'=>∃ a' c' fp,e=.returned (.slice a' l.length c')∧Below w.heap.size w w'∧Own w' (intssT l) (.slice a' l.length c') fp∧In w.heap.size w'.heap.size fp :=
 toInt64SS_any l v w h (by rw[siz_intss] at hn;omega) (by rw[siz_intss] at hn;omega)
theorem eq_Int64S (l:List Int) (v v':Value) (B:Nat) (w:World) (h:Rd B w (intsT l) v) (h':Rd B w (intsT l) v') (hB:B≤w.heap.size) (hn:siz (intsT l)≤1099511627776) :
  Calls Tryz.prog 115 #[v,v'] w fun e w'=>e=.returned (.bool true)∧Below w.heap.size w w' :=
 eqInt64S_any l v v' B w h h' hB (by rw[siz_ints] at hn;exact hn)
theorem eq_Int64SS (l:List (List Int)) (v v':Value) (B:Nat) (w:World) (h:Rd B w (intssT l) v) (h':Rd B w (intssT l) v') (hB:B≤w.heap.size) (hn:siz (intssT l)≤1099511627776) :
  Calls Tryz.prog 60 #[v,v'] w fun e w'=>e=.returned (.bool true)∧Below w.heap.size w w' :=
 eqInt64SS_any l v v' B w h h' hB (by rw[siz_intss] at hn;omega) (by rw[siz_intss] at hn;omega)
theorem mark_Int64S (l:List Int) (v:Value) (fp:List Nat) (k0 lo:Nat) (w:World) (h:Own w (intsT l) v fp) (hin:In lo w.heap.size fp) (hs:siz (intsT l)≤1099511627776) (hk0:k0+cnt (intsT l)≤1099511627776) :
  Calls Tryz.prog 123 #[v,.int .i64 k0] w fun e w'=>e=.returned (.int .i64 ((k0+cnt (intsT l):Nat):Int))∧Own w' (mkT (intsT l) k0) v fp∧Chg fp w w':=by
 rw[cnt_ints] at hk0 ⊢
 exact markInt64S_any l v fp k0 w h hk0
theorem mark_Int64SS (l:List (List Int)) (v:Value) (fp:List Nat) (k0 lo:Nat) (w:World) (h:Own w (intssT l) v fp) (hin:In lo w.heap.size fp) (hs:siz (intssT l)≤1099511627776) (hk0:k0+cnt (intssT l)≤1099511627776) :
  Calls Tryz.prog 66 #[v,.int .i64 k0] w fun e w'=>e=.returned (.int .i64 ((k0+cnt (intssT l):Nat):Int))∧Own w' (mkT (intssT l) k0) v fp∧Chg fp w w':=by
 rw[cnt_intss] at hk0 ⊢
 rw[siz_intss] at hs
 exact markInt64SS_any l v fp k0 lo w h hin (by omega) hk0
theorem markI_Int64S (l:List Int) (v:Value) (fp:List Nat) (k lo:Nat) (K:Int) (w:World) (h:Own w (intsT l) v fp) (hin:In lo w.heap.size fp) (hs:siz (intsT l)≤1099511627776) (hK:K=(k:Int)) (hk0:k+cnt (intsT l)≤1099511627776) (hk1:0<k) :
  Calls Tryz.prog 123 #[v,.int .i64 K] w fun e w'=>e=.returned (.int .i64 (K+(cnt (intsT l):Int)))∧Own w' (mkT (intsT l) k) v fp∧Chg fp w w':=by
 subst hK
 refine (mark_Int64S l v fp k lo w h hin hs hk0).mono fun e w' ⟨he,h1,h2⟩=>⟨?_,h1,h2⟩
 rw[he,Int.natCast_add]
theorem markI_Int64SS (l:List (List Int)) (v:Value) (fp:List Nat) (k lo:Nat) (K:Int) (w:World) (h:Own w (intssT l) v fp) (hin:In lo w.heap.size fp) (hs:siz (intssT l)≤1099511627776) (hK:K=(k:Int)) (hk0:k+cnt (intssT l)≤1099511627776) (hk1:0<k) :
  Calls Tryz.prog 66 #[v,.int .i64 K] w fun e w'=>e=.returned (.int .i64 (K+(cnt (intssT l):Int)))∧Own w' (mkT (intssT l) k) v fp∧Chg fp w w':=by
 subst hK
 refine (mark_Int64SS l v fp k lo w h hin hs hk0).mono fun e w' ⟨he,h1,h2⟩=>⟨?_,h1,h2⟩
 rw[he,Int.natCast_add]
end Go.Proofs.YtjfmkmcefnidcaaGreat
namespace Go.Proofs.YtjfmkmcefnidcaaGreat
open Go.RowKit
set_option linter.unusedVariables false
def inB (n a b:Int):Bool:=decide (a≤n)&&decide (n≤b)
theorem inB_true {n a b:Int} : inB n a b=true↔a≤n∧n≤b:=by simp[inB]
theorem inB_false {n a b:Int} : inB n a b=false↔¬ (a≤n∧n≤b):=by rw[← inB_true];simp
theorem within_any (n a b:Int) (w:World) :
  Calls Tryz.prog 175 #[.int .i64 n,.int .i64 a,.int .i64 b] w fun e w'=>e=.returned (.bool (inB n a b))∧w=w':=by
 by_cases h1:a≤n
 ·have e:inB n a b=decide (n≤b):=by unfold inB;simp[h1]
  rw[e];clear e
  go_enter Tryz.func175,Tryz.ntmps175
  go_wp2
  go_ret
  exact⟨rfl,rfl⟩
 ·have e:inB n a b=false:=by unfold inB;simp[h1]
  rw[e];clear e
  go_enter Tryz.func175,Tryz.ntmps175
  go_wp2
  go_ret
  exact⟨rfl,rfl⟩
theorem l00In_any (n a b:Int) (w:World) :
  Calls Tryz.prog 148 #[.int .i64 n,.int .i64 a,.int .i64 b] w fun e w'=>e=.returned (.bool (inB n a b))∧w=w':=by
 by_cases h1:a≤n
 ·have e:inB n a b=decide (n≤b):=by unfold inB;simp[h1]
  rw[e];clear e
  go_enter Tryz.func148,Tryz.ntmps148
  go_wp2
  go_ret
  exact⟨rfl,rfl⟩
 ·have e:inB n a b=false:=by unfold inB;simp[h1]
  rw[e];clear e
  go_enter Tryz.func148,Tryz.ntmps148
  go_wp2
  go_ret
  exact⟨rfl,rfl⟩
def firstIdx' {α:Type} (p:α→Bool) (l:List α):Int:=match l.findIdx? p with|some i=>i|none=>-1
theorem any_take_succ {α:Type} (p:α→Bool) (l:List α) (k:Nat) (h:k<l.length):(l.take (k+1)).any p=((l.take k).any p || p l[k]):=by
 rw[List.take_succ_eq_append_getElem h,List.any_append];simp
theorem firstIdx_at {α:Type} (p:α→Bool) (l:List α) (k:Nat) (h:k<l.length) (hp:p l[k]=true) (hb:(l.take k).any p=false):firstIdx' p l=k:=by
 have:l.findIdx? p=some k:=by
  rw[List.findIdx?_eq_some_iff_getElem]
  refine⟨h,hp,fun j hj=>?_⟩
  have hm:l[j] ∈ l.take k:=by
   rw[List.mem_take_iff_getElem]
   exact⟨j,by omega,rfl⟩
  have:=List.any_eq_false.1 hb l[j] hm
  simpa using this
 unfold firstIdx';rw[this]
theorem firstIdx_none {α:Type} (p:α→Bool) (l:List α) (hb:l.any p=false):firstIdx' p l = -1:=by
 have:l.findIdx? p=none:=by
  rw[List.findIdx?_eq_none_iff]
  intro x hx
  have:=List.any_eq_false.1 hb x hx
  simpa using this
 unfold firstIdx';rw[this]
theorem firstIdx_nonneg' {α:Type} (p:α→Bool) (l:List α):decide (0≤firstIdx' p l)=l.any p:=by
 unfold firstIdx'
 cases h:l.findIdx? p with
 | none =>
  have:l.any p=false:=by
   rw[List.any_eq_false]
   intro x hx
   have:=List.findIdx?_eq_none_iff.1 h x hx
   simp[this]
  rw[this];rfl
 | some i =>
  have:l.any p=true:=by
   rw[List.any_eq_true]
   obtain⟨hi,hp,_⟩:=List.findIdx?_eq_some_iff_getElem.1 h
   exact⟨l[i],List.getElem_mem hi,hp⟩
  rw[this];simp
theorem firstIdx_bounds {α:Type} (p:α→Bool) (l:List α):-1≤firstIdx' p l∧firstIdx' p l<l.length:=by
 unfold firstIdx'
 cases h:l.findIdx? p with
 | none=>simp;omega
 | some i =>
  obtain⟨hi,_,_⟩:=List.findIdx?_eq_some_iff_getElem.1 h
  refine⟨?_,?_⟩<;>simp<;>omega
theorem indexFuncI_any (l:List Int) (p:Int→Bool) (fn:FuncId) (cap:List Value) (v:Value) (B:Nat) (w:World) (h:Rd B w (intsT l) v) (hB:B≤w.heap.size) (hn:l.length≤1099511627776)
  (hcf:∀ (args:Array Value) (W:World),(callFunc fn args).run Tryz.prog W=.ok (.enter fn args) W)
  (hf:∀ x ∈ l,∀ W:World,Below w.heap.size w W→Calls Tryz.prog fn (Value.int .i64 x::cap).toArray W fun e W'=>e=.returned (.bool (p x))∧Below W.heap.size W W') :
  Calls Tryz.prog 222 #[v,.func (.func fn) #[] cap.toArray] w fun e w'=>e=.returned (.int .i64 (firstIdx' p l))∧Below w.heap.size w w':=by
 obtain⟨a,c,rfl,hnc,hcm,hcells⟩:=h.ints
 clear h
 have hnb:(l.length:Int)≤1099511627776:=by omega
 have HF:=Lib.hid hf
 clear hf
 go_enter Tryz.func222,Tryz.ntmps222
 go_wp2
 go_loopw [8] (fun i wr=>∃ (k:Nat),k≤l.length∧i=.int .i64 k∧(l.take k).any p=false∧Below w.heap.size w wr) (fun i wr=>l.length-(intOf i).toNat)
 case atStart=>exact⟨0,Nat.zero_le _,rfl,by simp,Below.refl _ _⟩
 case round =>
  obtain⟨k,hk,rfl,hno,hb⟩:=hrel
  have HN:=Lib.hid hno
  clear hno
  by_cases hlt:k<l.length
  ·obtain⟨b,off,rfl,hbl,hat⟩:=hcells (by omega)
   have s0:=hat k hlt
   rw[← hb.cell (p:=⟨b,_,none⟩) (show b<w.heap.size by omega)] at s0
   have HB:=Lib.hid hb
   clear hcells hat hb
   go_wp2_with fail
   refine (HF.out l[k] (List.getElem_mem hlt) _ HB.out).mono ?_
   rintro e w1 ⟨rfl,hb1⟩
   have HB1:=Lib.hid (HB.out.trans (hb1.mono HB.out.size))
   clear hb1
   by_cases hp:p l[k]=true
   ·go_wp2
    go_ret
    exact⟨by rw[firstIdx_at p l k hlt hp HN.out];rfl,HB1.out⟩
   ·have hp':p l[k]=false:=by simpa using hp
    clear hp
    go_wp2
    go_roundw
    case rel=>exact⟨k+1,by omega,by go_num,by rw[any_take_succ p l k hlt,HN.out,hp'];rfl,HB1.out⟩
    case measure=>simp[intOf];omega
  ·obtain rfl:k=l.length:=by omega
   clear hcells
   go_wp2
   go_ret
   have:=HN.out
   rw[List.take_length] at this
   exact⟨by rw[firstIdx_none p l this];rfl,hb⟩
theorem containsFuncI_any (l:List Int) (p:Int→Bool) (fn:FuncId) (cap:List Value) (v:Value) (B:Nat) (w:World) (h:Rd B w (intsT l) v) (hB:B≤w.heap.size) (hn:l.length≤1099511627776)
  (hcf:∀ (args:Array Value) (W:World),(callFunc fn args).run Tryz.prog W=.ok (.enter fn args) W)
  (hf:∀ x ∈ l,∀ W:World,Below w.heap.size w W→Calls Tryz.prog fn (Value.int .i64 x::cap).toArray W fun e W'=>e=.returned (.bool (p x))∧Below W.heap.size W W') :
  Calls Tryz.prog 176 #[v,.func (.func fn) #[] cap.toArray] w fun e w'=>e=.returned (.bool (l.any p))∧Below w.heap.size w w':=by
 have HC:=Lib.hid (indexFuncI_any l p fn cap v B w h hB hn hcf hf)
 have HE:=Lib.hid (firstIdx_nonneg' p l)
 clear hf h hcf
 generalize l.any p=r at *
 go_enter Tryz.func176,Tryz.ntmps176
 go_wp2_with fail
 refine (HC.out).mono ?_
 rintro e w1 ⟨rfl,hb1⟩
 have he:=HE.out
 generalize firstIdx' p l=m at *
 go_wp2
 go_ret
 exact⟨rfl,hb1⟩
theorem allWithin_any (l:List Int) (lo hi:Int) (v:Value) (B:Nat) (w:World) (h:Rd B w (intsT l) v) (hB:B≤w.heap.size) (hn:l.length≤1099511627776) :
  Calls Tryz.prog 113 #[v,.int .i64 lo,.int .i64 hi] w fun e w'=>e=.returned (.bool (l.all fun n=>inB n lo hi))∧Below w.heap.size w w':=by
 have b0:Below w.heap.size w ((w.alloc (.cells #[.int .i64 lo] 2)).alloc (.cells #[.int .i64 hi] 2)):=((Below.refl _ _).alloc (Nat.le_refl _) _).alloc (by simp) _
 have HC:=Lib.hid (containsFuncI_any l (fun n=>!inB n lo hi) 177 [.pointer (some ⟨w.heap.size,0,none⟩),.pointer (some ⟨w.heap.size+1,0,none⟩)] v B ((w.alloc (.cells #[.int .i64 lo] 2)).alloc (.cells #[.int .i64 hi] 2)) (h.below (b0.mono hB)) (by simp;omega) hn (fun _ _=>by kernel_rfl) (fun x _ W hW=>by
  have c1:W.cell? ⟨w.heap.size,0,none⟩=some (.int .i64 lo):=by rw[hW.cell (p:=⟨w.heap.size,0,none⟩) (by simp;omega)];simp[go_sem]
  have c2:W.cell? ⟨w.heap.size+1,0,none⟩=some (.int .i64 hi):=by rw[hW.cell (p:=⟨w.heap.size+1,0,none⟩) (by simp)];simp[go_sem]
  clear hW
  go_enter Tryz.func177,Tryz.ntmps177
  go_wp2_with (go_at_call 175;refine (within_any _ _ _ _).mono ?_;rintro e w' ⟨rfl,rfl⟩)
  go_ret
  exact⟨rfl,Below.refl _ _⟩))
 have B0:=Lib.hid b0
 have he:(!(l.any fun n=>!inB n lo hi))=(l.all fun n=>inB n lo hi):=by
  rw[List.not_any_eq_all_not];simp
 have HE:=Lib.hid he
 clear he
 clear b0 h
 generalize (l.any fun n=>!inB n lo hi)=r at *
 generalize (l.all fun n=>inB n lo hi)=r2 at *
 go_enter Tryz.func113,Tryz.ntmps113
 go_wp2_with fail
 refine (HC.out).mono ?_
 rintro e w1 ⟨rfl,hb1⟩
 go_wp2
 go_ret
 exact⟨by rw[← HE.out];rfl,B0.out.trans (hb1.mono (by simp;omega))⟩
end Go.Proofs.YtjfmkmcefnidcaaGreat
