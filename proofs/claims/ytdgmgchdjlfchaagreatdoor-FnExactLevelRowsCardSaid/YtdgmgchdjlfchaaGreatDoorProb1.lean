/- Contracts: domains of problems, for the program and for the reference. Conditions: bounded lengths. -/
import Derived.Test.YtdgmgchdjlfchaaGreatDoorText
import Derived.Deep.RegionHeld3
set_option linter.unusedVariables false
set_option linter.unusedSimpArgs false
namespace Go.Proofs.YtdgmgchdjlfchaaGreatDoor
open Go.RowKit
set_option maxHeartbeats 1000000
set_option maxRecDepth 100000
theorem eqInt64SS_any (l:List (List Int)) (v v':Value) (B:Nat) (w:World) (h:Rd B w (zbw l) v) (h':Rd B w (zbw l) v') (hB:B≤w.heap.size) (hn:l.length≤1099511627776) (hm:zbm l≤1099511627776) :
  Calls Tryz.prog 29 #[v,v'] w fun e w'=>e=.returned (.bool true)∧Below w.heap.size w w':=by
 have hnb:(l.length:Int)≤1099511627776:=by omega
 obtain⟨a,c,rfl,hnc,hcm,hcells⟩:=h.intss;obtain⟨a',c',rfl,hnc',hcm',hcells'⟩:=h'.intss;clear h h';have hne:((l.length:Int) != l.length)=false:=by simp
 go_enter Tryz.func29,Tryz.ntmps29;go_wp2;clear hne;go_loopw [5] (fun i wr=>∃ (k:Nat),k≤l.length∧i=.int .i64 k∧Below w.heap.size w wr) (fun i wr=>l.length-(intOf i).toNat)
 case atStart=>exact⟨0,Nat.zero_le _,rfl,Below.refl _ _⟩
 case round =>
  obtain⟨k,hk,rfl,hb⟩:=hrel
  by_cases hlt:k<l.length
  ·obtain⟨b,off,rfl,hbl,hat⟩:=hcells (by omega)
   obtain⟨b',off',rfl,hbl',hat'⟩:=hcells' (by omega);obtain⟨u,s0,hu⟩:=hat k hlt;obtain⟨u',s1,hu'⟩:=hat' k hlt;rw[← hb.cell (p:=⟨b,_,none⟩) (show b<w.heap.size by omega)] at s0;rw[← hb.cell (p:=⟨b',_,none⟩) (show b' < w.heap.size by omega)] at s1;have r0:Rd B wr (zai l[k]) u:=hu.below (hb.mono hB);have r1:Rd B wr (zai l[k]) u':=hu'.below (hb.mono hB);have hB':B≤wr.heap.size:=by have:=hb.size;omega
   have hsl:=sumLen_get_le l k hlt;have i1:(0:Int)≤(k:Int):=by omega
   have i2:(k:Int)<(l.length:Int):=by omega
   clear hcells hat hcells' hat' hu hu';have HB:=Lib.hid hb;clear hb;go_wp2
   go_still_tail 8,(by kernel_rfl)
   change wpList _ _ _ _ _ wr.drew
   go_wp2_with (go_at_call 18;refine (eqInt64S_any l[k] _ _ B _ r0.drew r1.drew hB' (by omega)).mono ?_;rintro e w1 ⟨rfl,hb1⟩);go_roundw
   case rel=>exact⟨k+1,by omega,by go_num,HB.out.drew.trans (hb1.mono HB.out.size)⟩
   case measure=>simp[intOf];omega
  ·obtain rfl:k=l.length:=by omega
   clear hcells hcells';go_wp2;go_ret;exact⟨rfl,hb⟩
theorem markInt64SS_any (l:List (List Int)) (v:Value) (fp:List Nat) (k0 lo:Nat) (w:World) (h:Own w (zbw l) v fp) (hin:In lo w.heap.size fp) (hn:l.length≤1099511627776) (hk0:k0+zbm l≤1099511627776) :
  Calls Tryz.prog 32 #[v,.int .i64 k0] w fun e w'=>e=.returned (.int .i64 ((k0+zbm l:Nat):Int))∧Own w' (mkT (zbw l) k0) v fp∧Chg fp w w':=by
 obtain⟨a,c,hv,hnc,hcm⟩:=h.form1;rw[intssT_flat] at h ⊢;subst hv;have hnb:(l.length:Int)≤1099511627776:=by omega
 go_enter Tryz.func32,Tryz.ntmps32;go_wp2;go_loopw [1,5] (fun kk i wr=>∃ (j:Nat),j≤l.length∧i=.int .i64 j∧kk=.int .i64 ((k0+zbm (l.take j):Nat):Int)∧Own wr (mid (fun x=>[zai x]) 1 l k0 j) (.slice a l.length c) fp∧Chg fp w wr) (fun _ i wr=>l.length-(intOf i).toNat)
 case atStart=>exact⟨0,Nat.zero_le _,rfl,by simp[zbm],by rw[zev];exact h,Chg.refl _ _⟩
 case round =>
  obtain⟨j,hj,rfl,rfl,hown,hchg⟩:=hrel
  by_cases hlt:j<l.length
  ·rw[mid_at _ _ _ _ _ hlt] at hown
   obtain⟨b,off,n',c',x,g,hv,hbf,_,hcell,hox,hgf,hset⟩:=hown.partAt (t:=zai l[j]);rw[zbt,zat _ 1 (fun _=>rfl),List.length_take,Nat.min_eq_left hj,Nat.mul_one] at hcell;injection hv with hv1 hv2 hv3;subst hv1;have hsum:=zd4 l j hlt;have hle:=ze2 l (j+1);have HS:=Lib.hid hsum;have hkk:k0+zbm (l.take j)+l[j].length≤1099511627776:=by omega
   clear hv2 hv3 hsum hown;go_wp2_with (go_at_call 21;refine (markInt64S_any l[j] _ g _ _ hox hkk).mono ?_;rintro e w1 ⟨rfl,ho1,hc1⟩);go_roundw
   case rel =>
    refine⟨j+1,by omega,by go_num,by rw[HS.out];go_num,?_,hchg.trans (hc1.mono hgf)⟩;rw[zew _ _ _ _ _ hlt,cntL_intss];have em:mkL [zai l[j]] (k0+zbm (l.take j)) = [mkT (zai l[j]) (k0+zbm (l.take j))]:=by simp[mkL]
    rw[em];refine hset w1 _ (fun y hy hyg=>hc1.block y ?_ hyg) ho1;have:=(hin y hy).2;have:=hchg.size;omega
   case measure=>simp[intOf];omega
  ·obtain rfl:j=l.length:=by omega
   go_wp2;go_ret;rw[mid_end] at hown;exact⟨zb2 (by rw[List.take_length]),hown,hchg⟩
theorem heldInt64SS_any (l:List (List Int)) (v:Value) (B:Nat) (k0:Nat) (w:World) (h:Rd B w (mkT (zbw l) k0) v) (hB:B≤w.heap.size) (hn:l.length≤1099511627776) (hk0:k0+zbm l≤1099511627776) :
  Calls Tryz.prog 33 #[v,.int .i64 k0] w fun e w'=>e=.returned (.int .i64 ((k0+zbm l:Nat):Int))∧Below w.heap.size w w':=by
 rw[intssT_flat] at h;obtain⟨a,c,rfl,hnc,hcm,hcells⟩:=h.mkAt (k:=1) (g:=fun x=>[zai x]) (by decide) (fun _=>rfl);clear h;have hnb:(l.length:Int)≤1099511627776:=by omega
 go_enter Tryz.func33,Tryz.ntmps33;go_wp2;go_loopw [1,5] (fun kk i wr=>∃ (j:Nat),j≤l.length∧i=.int .i64 j∧kk=.int .i64 ((k0+zbm (l.take j):Nat):Int)∧Below w.heap.size w wr) (fun _ i wr=>l.length-(intOf i).toNat)
 case atStart=>exact⟨0,Nat.zero_le _,rfl,by simp[zbm],Below.refl _ _⟩
 case round =>
  obtain⟨j,hj,rfl,rfl,hb⟩:=hrel
  by_cases hlt:j<l.length
  ·obtain⟨b,off,rfl,hbl,hat⟩:=hcells (by omega)
   obtain⟨u,s0,hu⟩:=hat j hlt 0 (mkT (zai l[j]) (k0+zbm (l.take j))) (by rw[cntL_intss];simp[mkL]);rw[← hb.cell (p:=⟨b,_,none⟩) (show b<w.heap.size by omega),Nat.mul_one,Nat.add_zero] at s0;have r0:Rd B wr (mkT (zai l[j]) (k0+zbm (l.take j))) u:=hu.below (hb.mono hB);have hB':B≤wr.heap.size:=by have:=hb.size;omega
   have hsum:=zd4 l j hlt;have hle:=ze2 l (j+1);have HS:=Lib.hid hsum;have hkk:k0+zbm (l.take j)+l[j].length≤1099511627776:=by omega
   have c3:decide (((k0+zbm (l.take j)+l[j].length:Nat):Int)<0)=false:=by simp<;>omega
   have HB:=Lib.hid hb;clear hcells hat hu hb hsum;go_wp2_with (go_at_call 22;refine (heldInt64S_any l[j] _ B _ _ r0 hB' hkk).mono ?_;rintro e w1 ⟨rfl,hb1⟩);go_roundw
   case rel=>exact⟨j+1,by omega,by go_num,by rw[HS.out];go_num,HB.out.trans (hb1.mono HB.out.size)⟩
   case measure=>simp[intOf];omega
  ·obtain rfl:j=l.length:=by omega
   clear hcells;go_wp2;go_ret;exact⟨zb2 (by rw[List.take_length]),hb⟩
theorem sizL_ints (l:List Int):sizL (l.map intT)=0:=by
 induction l with
 | nil=>rfl
 | cons x l ih=>simp only[List.map_cons,sizL,ih,intT,siz]
theorem zch (l:List Int):siz (zai l)=l.length:=by rw[zai,siz,sizL_ints];simp
theorem sizL_intss (l:List (List Int)):sizL (l.map zai)=zbm l:=by
 induction l with
 | nil=>rfl
 | cons x l ih=>simp only[List.map_cons,sizL,ih,zch];simp[zbm]
theorem siz_intss (l:List (List Int)):siz (zbw l)=l.length+zbm l:=by rw[zbw,siz,sizL_intss];simp
theorem cnt_intss (l:List (List Int)):cnt (zbw l)=zbm l:=by rw[intssT_flat,cnt,cntL_intss]
theorem sz_Int64S (l:List Int) (v:Value) (B:Nat) (left:Int) (w:World) (h:Rd B w (zai l) v) (hB:B≤w.heap.size) (hl:0≤left) (hl2:left≤1048576) :
  Calls Tryz.prog 34 #[v,.int .i64 left] w (SzPost (siz (zai l)) left w) :=
 (szInt64S_any l v B left w h hl hl2).mono fun e w' ⟨he,hw⟩=>by subst hw;rw[zch];exact SzPost.of_left he (Below.refl _ _)
theorem to_Int64S (l:List Int) (v:Value) (w:World) (h:Rd w.heap.size w (zai l) v) (hn:siz (zai l)≤1048576) :
  Calls Tryz.prog 47 #[v] w fun e w'=>∃ a' c' fp,e=.returned (.slice a' l.length c')∧Below w.heap.size w w'∧Own w' (zai l) (.slice a' l.length c') fp∧In w.heap.size w'.heap.size fp :=
 toInt64S_any l v w h (by rw[zch] at hn;exact hn)
theorem eq_Int64S (l:List Int) (v v':Value) (B:Nat) (w:World) (h:Rd B w (zai l) v) (h':Rd B w (zai l) v') (hB:B≤w.heap.size) (hn:siz (zai l)≤1099511627776) :
  Calls Tryz.prog 18 #[v,v'] w fun e w'=>e=.returned (.bool true)∧Below w.heap.size w w' :=
 eqInt64S_any l v v' B w h h' hB (by rw[zch] at hn;exact hn)
theorem eq_Int64SS (l:List (List Int)) (v v':Value) (B:Nat) (w:World) (h:Rd B w (zbw l) v) (h':Rd B w (zbw l) v') (hB:B≤w.heap.size) (hn:siz (zbw l)≤1099511627776) :
  Calls Tryz.prog 29 #[v,v'] w fun e w'=>e=.returned (.bool true)∧Below w.heap.size w w' :=
 eqInt64SS_any l v v' B w h h' hB (by rw[siz_intss] at hn;omega) (by rw[siz_intss] at hn;omega)
theorem mark_Int64S (l:List Int) (v:Value) (fp:List Nat) (k0 lo:Nat) (w:World) (h:Own w (zai l) v fp) (hin:In lo w.heap.size fp) (hs:siz (zai l)≤1099511627776) (hk0:k0+cnt (zai l)≤1099511627776) :
  Calls Tryz.prog 21 #[v,.int .i64 k0] w fun e w'=>e=.returned (.int .i64 ((k0+cnt (zai l):Nat):Int))∧Own w' (mkT (zai l) k0) v fp∧Chg fp w w':=by
 rw[cnt_ints] at hk0 ⊢;exact markInt64S_any l v fp k0 w h hk0
theorem mark_Int64SS (l:List (List Int)) (v:Value) (fp:List Nat) (k0 lo:Nat) (w:World) (h:Own w (zbw l) v fp) (hin:In lo w.heap.size fp) (hs:siz (zbw l)≤1099511627776) (hk0:k0+cnt (zbw l)≤1099511627776) :
  Calls Tryz.prog 32 #[v,.int .i64 k0] w fun e w'=>e=.returned (.int .i64 ((k0+cnt (zbw l):Nat):Int))∧Own w' (mkT (zbw l) k0) v fp∧Chg fp w w':=by
 rw[cnt_intss] at hk0 ⊢;rw[siz_intss] at hs;exact markInt64SS_any l v fp k0 lo w h hin (by omega) hk0
theorem held_Int64SS (l:List (List Int)) (v:Value) (B:Nat) (k0:Nat) (w:World) (h:Rd B w (mkT (zbw l) k0) v) (hB:B≤w.heap.size) (hs:siz (zbw l)≤1099511627776) (hk0:k0+cnt (zbw l)≤1099511627776) :
  Calls Tryz.prog 33 #[v,.int .i64 k0] w fun e w'=>e=.returned (.int .i64 ((k0+cnt (zbw l):Nat):Int))∧Below w.heap.size w w':=by
 rw[cnt_intss] at hk0 ⊢;rw[siz_intss] at hs;exact heldInt64SS_any l v B k0 w h hB (by omega) hk0
theorem zex (l:List Int) (v:Value) (fp:List Nat) (k lo:Nat) (K:Int) (w:World) (h:Own w (zai l) v fp) (hin:In lo w.heap.size fp) (hs:siz (zai l)≤1099511627776) (hK:K=(k:Int)) (hk0:k+cnt (zai l)≤1099511627776) (hk1:0<k) :
  Calls Tryz.prog 21 #[v,.int .i64 K] w fun e w'=>e=.returned (.int .i64 (K+(cnt (zai l):Int)))∧Own w' (mkT (zai l) k) v fp∧Chg fp w w':=by
 subst hK;refine (mark_Int64S l v fp k lo w h hin hs hk0).mono fun e w' ⟨he,h1,h2⟩=>⟨?_,h1,h2⟩
 rw[he,Int.natCast_add]
def inB (n a b:Int):Bool:=decide (a≤n)&&decide (n≤b)
theorem zaq {n a b:Int} : inB n a b=true↔a≤n∧n≤b:=by simp[inB]
theorem zao (n a b:Int) (w:World) :
  Calls Tryz.prog 74 #[.int .i64 n,.int .i64 a,.int .i64 b] w fun e w'=>e=.returned (.bool (inB n a b))∧w=w':=by
 by_cases h1:a≤n
 ·have e:inB n a b=decide (n≤b):=by unfold inB;simp[h1]
  rw[e];clear e;go_enter Tryz.func74,Tryz.ntmps74;go_wp2;go_ret;exact⟨rfl,rfl⟩
 ·have e:inB n a b=false:=by unfold inB;simp[h1]
  rw[e];clear e;go_enter Tryz.func74,Tryz.ntmps74;go_wp2;go_ret;exact⟨rfl,rfl⟩
theorem zap (n a b:Int) (w:World) :
  Calls Tryz.prog 77 #[.int .i64 n,.int .i64 a,.int .i64 b] w fun e w'=>e=.returned (.bool (inB n a b))∧w=w':=by
 by_cases h1:a≤n
 ·have e:inB n a b=decide (n≤b):=by unfold inB;simp[h1]
  rw[e];clear e;go_enter Tryz.func77,Tryz.ntmps77;go_wp2;go_ret;exact⟨rfl,rfl⟩
 ·have e:inB n a b=false:=by unfold inB;simp[h1]
  rw[e];clear e;go_enter Tryz.func77,Tryz.ntmps77;go_wp2;go_ret;exact⟨rfl,rfl⟩
def zbc {α:Type} (p:α→Bool) (l:List α):Int:=match l.findIdx? p with|some i=>i|none=>-1
theorem zce {α:Type} (p:α→Bool) (l:List α) (k:Nat) (h:k<l.length):(l.take (k+1)).any p=((l.take k).any p || p l[k]):=by
 rw[List.take_succ_eq_append_getElem h,List.any_append];simp
theorem zc1 {α:Type} (p:α→Bool) (l:List α) (k:Nat) (h:k<l.length) (hp:p l[k]=true) (hb:(l.take k).any p=false):zbc p l=k:=by
 have:l.findIdx? p=some k:=by
  rw[List.findIdx?_eq_some_iff_getElem];refine⟨h,hp,fun j hj=>?_⟩;have hm:l[j] ∈ l.take k:=by
   rw[List.mem_take_iff_getElem];exact⟨j,by omega,rfl⟩
  have:=List.any_eq_false.1 hb l[j] hm
  simpa using this
 unfold zbc;rw[this]
theorem zcc {α:Type} (p:α→Bool) (l:List α) (hb:l.any p=false):zbc p l = -1:=by
 have:l.findIdx? p=none:=by
  rw[List.findIdx?_eq_none_iff];intro x hx;have:=List.any_eq_false.1 hb x hx
  simpa using this
 unfold zbc;rw[this]
theorem firstIdx_nonneg' {α:Type} (p:α→Bool) (l:List α):decide (0≤zbc p l)=l.any p:=by
 unfold zbc
 cases h:l.findIdx? p with
 | none =>
  have:l.any p=false:=by
   rw[List.any_eq_false];intro x hx;have:=List.findIdx?_eq_none_iff.1 h x hx;simp[this]
  rw[this];rfl
 | some i =>
  have:l.any p=true:=by
   rw[List.any_eq_true];obtain⟨hi,hp,_⟩:=List.findIdx?_eq_some_iff_getElem.1 h;exact⟨l[i],List.getElem_mem hi,hp⟩
  rw[this];simp
theorem indexFuncI_any (l:List Int) (p:Int→Bool) (fn:FuncId) (cap:List Value) (v:Value) (B:Nat) (w:World) (h:Rd B w (zai l) v) (hB:B≤w.heap.size) (hn:l.length≤1099511627776)
  (hcf:∀ (args:Array Value) (W:World),(callFunc fn args).run Tryz.prog W=.ok (.enter fn args) W)
  (hf:∀ x ∈ l,∀ W:World,Below w.heap.size w W→Calls Tryz.prog fn (Value.int .i64 x::cap).toArray W fun e W'=>e=.returned (.bool (p x))∧Below W.heap.size W W') :
  Calls Tryz.prog 189 #[v,.func (.func fn) #[] cap.toArray] w fun e w'=>e=.returned (.int .i64 (zbc p l))∧Below w.heap.size w w':=by
 obtain⟨a,c,rfl,hnc,hcm,hcells⟩:=h.ints;clear h;have hnb:(l.length:Int)≤1099511627776:=by omega
 have HF:=Lib.hid hf;clear hf;go_enter Tryz.func189,Tryz.ntmps189;go_wp2;go_loopw [8] (fun i wr=>∃ (k:Nat),k≤l.length∧i=.int .i64 k∧(l.take k).any p=false∧Below w.heap.size w wr) (fun i wr=>l.length-(intOf i).toNat)
 case atStart=>exact⟨0,Nat.zero_le _,rfl,by simp,Below.refl _ _⟩
 case round =>
  obtain⟨k,hk,rfl,hno,hb⟩:=hrel;have HN:=Lib.hid hno;clear hno
  by_cases hlt:k<l.length
  ·obtain⟨b,off,rfl,hbl,hat⟩:=hcells (by omega)
   have s0:=hat k hlt;rw[← hb.cell (p:=⟨b,_,none⟩) (show b<w.heap.size by omega)] at s0;have HB:=Lib.hid hb;clear hcells hat hb;go_wp2_with fail;refine (HF.out l[k] (List.getElem_mem hlt) _ HB.out).mono ?_;rintro e w1 ⟨rfl,hb1⟩;have HB1:=Lib.hid (HB.out.trans (hb1.mono HB.out.size));clear hb1
   by_cases hp:p l[k]=true
   ·go_wp2
    go_ret;exact⟨by rw[zc1 p l k hlt hp HN.out];rfl,HB1.out⟩
   ·have hp':p l[k]=false:=by simpa using hp
    clear hp;go_wp2;go_roundw
    case rel=>exact⟨k+1,by omega,by go_num,by rw[zce p l k hlt,HN.out,hp'];rfl,HB1.out⟩
    case measure=>simp[intOf];omega
  ·obtain rfl:k=l.length:=by omega
   clear hcells;go_wp2;go_ret;have:=HN.out;rw[List.take_length] at this;exact⟨by rw[zcc p l this];rfl,hb⟩
theorem containsFuncI_any (l:List Int) (p:Int→Bool) (fn:FuncId) (cap:List Value) (v:Value) (B:Nat) (w:World) (h:Rd B w (zai l) v) (hB:B≤w.heap.size) (hn:l.length≤1099511627776)
  (hcf:∀ (args:Array Value) (W:World),(callFunc fn args).run Tryz.prog W=.ok (.enter fn args) W)
  (hf:∀ x ∈ l,∀ W:World,Below w.heap.size w W→Calls Tryz.prog fn (Value.int .i64 x::cap).toArray W fun e W'=>e=.returned (.bool (p x))∧Below W.heap.size W W') :
  Calls Tryz.prog 145 #[v,.func (.func fn) #[] cap.toArray] w fun e w'=>e=.returned (.bool (l.any p))∧Below w.heap.size w w':=by
 have HC:=Lib.hid (indexFuncI_any l p fn cap v B w h hB hn hcf hf);have HE:=Lib.hid (firstIdx_nonneg' p l);clear hf h hcf;generalize l.any p=r at *;go_enter Tryz.func145,Tryz.ntmps145;go_wp2_with fail;refine (HC.out).mono ?_;rintro e w1 ⟨rfl,hb1⟩;have he:=HE.out;generalize zbc p l=m at *;go_wp2;go_ret;exact⟨rfl,hb1⟩
theorem zdn (l:List Int) (lo hi:Int) (v:Value) (B:Nat) (w:World) (h:Rd B w (zai l) v) (hB:B≤w.heap.size) (hn:l.length≤1099511627776) :
  Calls Tryz.prog 102 #[v,.int .i64 lo,.int .i64 hi] w fun e w'=>e=.returned (.bool (l.all fun n=>inB n lo hi))∧Below w.heap.size w w':=by
 have b0:Below w.heap.size w ((w.alloc (.cells #[.int .i64 lo] 2)).alloc (.cells #[.int .i64 hi] 2)):=((Below.refl _ _).alloc (Nat.le_refl _) _).alloc (by simp) _
 have HC:=Lib.hid (containsFuncI_any l (fun n=>!inB n lo hi) 146 [.pointer (some ⟨w.heap.size,0,none⟩),.pointer (some ⟨w.heap.size+1,0,none⟩)] v B ((w.alloc (.cells #[.int .i64 lo] 2)).alloc (.cells #[.int .i64 hi] 2)) (h.below (b0.mono hB)) (by simp<;>omega) hn (fun _ _=>by kernel_rfl) (fun x _ W hW=>by
  have c1:W.cell? ⟨w.heap.size,0,none⟩=some (.int .i64 lo):=by rw[hW.cell (p:=⟨w.heap.size,0,none⟩) (by simp<;>omega)];simp[go_sem]
  have c2:W.cell? ⟨w.heap.size+1,0,none⟩=some (.int .i64 hi):=by rw[hW.cell (p:=⟨w.heap.size+1,0,none⟩) (by simp)];simp[go_sem]
  clear hW;go_enter Tryz.func146,Tryz.ntmps146;go_wp2_with (go_at_call 74;refine (zao _ _ _ _).mono ?_;rintro e w' ⟨rfl,rfl⟩);go_ret
  exact⟨rfl,Below.refl _ _⟩))
 have B0:=Lib.hid b0;have he:(!(l.any fun n=>!inB n lo hi))=(l.all fun n=>inB n lo hi):=by
  rw[List.not_any_eq_all_not];simp
 have HE:=Lib.hid he;clear he;clear b0 h;generalize (l.any fun n=>!inB n lo hi)=r at *;generalize (l.all fun n=>inB n lo hi)=r2 at *;go_enter Tryz.func102,Tryz.ntmps102;go_wp2_with fail;refine (HC.out).mono ?_;rintro e w1 ⟨rfl,hb1⟩;go_wp2;go_ret;exact⟨by rw[← HE.out];rfl,B0.out.trans (hb1.mono (by simp<;>omega))⟩
def gi (l:List Int) (i:Nat):Int:=l.getD i 0
theorem gi_eq {l:List Int} {i:Nat} (h:i<l.length):l[i]=gi l i:=by simp[gi,h]
theorem zb7 {P:Program} {f:FuncId} {args:Array Value} {w:World} {n:Nat} {v:Value}
  (h:Calls P f args (w.drewN n) fun e w'=>e=.returned v∧w.drewN n=w'):Calls P f args (w.drewN n) fun e w''=>e=.returned v∧∃ m,w'' = w.drewN m :=
 h.mono fun _ _ ⟨he,hm⟩=>⟨he,n,hm.symm⟩
theorem all_iff (l:List Int) (lo hi:Int):(l.all fun n=>inB n lo hi)=true↔∀ i,i<l.length→inB (gi l i) lo hi=true:=by
 rw[List.all_eq_true]
 constructor
 ·intro h i hi
  have:=h l[i] (List.getElem_mem hi)
  rwa [gi_eq] at this
 ·intro h x hx
  obtain⟨i,hi,rfl⟩:=List.getElem_of_mem hx;have:=h i hi
  rwa [← gi_eq hi] at this
end Go.Proofs.YtdgmgchdjlfchaaGreatDoor
