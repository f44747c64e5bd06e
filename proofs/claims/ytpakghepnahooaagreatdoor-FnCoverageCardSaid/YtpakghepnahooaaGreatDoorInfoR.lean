/- What the model knows of the types of records and of changes, where the laws do not copy them. Plain lemmas. -/
import Derived.Test.YtpakghepnahooaaGreatDoorInts
import Derived.Deep.RegionHeld3
set_option linter.unusedVariables false
set_option linter.unusedSimpArgs false
namespace Go.Proofs.YtpakghepnahooaaGreatDoor
open Go.RowKit
theorem Q41 {p:Prop} (h:p:=by simp<;>omega):p:=h
theorem Q4a {p:Prop} (h:p:=by simp):p:=h
theorem Q0c {p:Prop} (h:p:=by
 rintro e w1 ⟨rfl,hb1⟩
 have HB1:=IJ (HB.out.trans (hb1.mono HB.out.size))
 clear hb1
 by_cases hp:p l[k]=true
 ·go_wp2
  go_ret;exact⟨by rw[zcs p l k hlt hp HN.out];rfl,HB1.out⟩
 ·have hp':p l[k]=false:=by simpa using hp
  clear hp;go_wp2;go_roundw
  case rel=>exact⟨k+1,II,by go_num,by rw[zcd p l k hlt,HN.out,hp'];rfl,HB1.out⟩
  case measure=>simp[intOf];omega):p:=h
theorem Q0x {p:Prop} (h:p:=by
 obtain rfl:k=l.length:=II
 clear hcells
 go_wp2
 go_ret
 have:=HN.out
 rw[List.take_length] at this
 exact⟨by rw[zcc p l this];rfl,hb⟩):p:=h
theorem sizL_ints (l:List Int):sizL (l.map intT)=0:=by
 induction l with
 | nil=>rfl
 | cons x l ih=>simp only[List.map_cons,sizL,ih,intT,siz]
theorem zdb (l:List Int):siz (zam l)=l.length:=by rw[zam,siz,sizL_ints];simp
def inB (n a b:Int):Bool:=decide (a≤n)&&decide (n≤b)
theorem zaq {n a b:Int} : inB n a b=true↔a≤n∧n≤b:=by simp[inB]
theorem zal (n a b:Int) (w:World) :
  Calls Tryz.prog 34 #[J n,J a,J b] w fun e w'=>e=.returned (.bool (inB n a b))∧w=w':=by
 by_cases h1:a≤n
 ·have e:inB n a b=decide (n≤b):=by unfold inB;simp[h1]
  rw[e];clear e;go_enter Tryz.func34,Tryz.ntmps34;go_wp2;go_ret;exact⟨rfl,rfl⟩
 ·have e:inB n a b=false:=by unfold inB;simp[h1]
  rw[e];clear e;go_enter Tryz.func34,Tryz.ntmps34;go_wp2;go_ret;exact⟨rfl,rfl⟩
theorem za7 (n a b:Int) (w:World) :
  Calls Tryz.prog 101 #[J n,J a,J b] w fun e w'=>e=.returned (.bool (inB n a b))∧w=w':=by
 by_cases h1:a≤n
 ·have e:inB n a b=decide (n≤b):=by unfold inB;simp[h1]
  rw[e];clear e;go_enter Tryz.func101,Tryz.ntmps101;go_wp2;go_ret;exact⟨rfl,rfl⟩
 ·have e:inB n a b=false:=by unfold inB;simp[h1]
  rw[e];clear e;go_enter Tryz.func101,Tryz.ntmps101;go_wp2;go_ret;exact⟨rfl,rfl⟩
def zbh {α:Type} (p:α→Bool) (l:List α):Int:=match l.findIdx? p with|some i=>i|none=>-1
theorem zcd {α:Type} (p:α→Bool) (l:List α) (k:Nat) (h:k<l.length):(l.take (k+1)).any p=((l.take k).any p || p l[k]):=by
 rw[List.take_succ_eq_append_getElem h,List.any_append];simp
theorem zcs {α:Type} (p:α→Bool) (l:List α) (k:Nat) (h:k<l.length) (hp:p l[k]=true) (hb:(l.take k).any p=false):zbh p l=k:=by
 have:l.findIdx? p=some k:=by
  rw[List.findIdx?_eq_some_iff_getElem];refine⟨h,hp,fun j hj=>?_⟩;have hm:l[j] ∈ l.take k:=by
   rw[List.mem_take_iff_getElem];exact⟨j,II,rfl⟩
  have:=List.any_eq_false.1 hb l[j] hm
  simpa using this
 unfold zbh;rw[this]
theorem zcc {α:Type} (p:α→Bool) (l:List α) (hb:l.any p=false):zbh p l = -1:=by
 have:l.findIdx? p=none:=by
  rw[List.findIdx?_eq_none_iff];intro x hx;have:=List.any_eq_false.1 hb x hx
  simpa using this
 unfold zbh;rw[this]
theorem zeb {α:Type} (p:α→Bool) (l:List α):decide (0≤zbh p l)=l.any p:=by
 unfold zbh
 cases h:l.findIdx? p with
 | none =>
  have:l.any p=false:=by
   rw[List.any_eq_false];intro x hx;have:=List.findIdx?_eq_none_iff.1 h x hx;simp[this]
  rw[this];rfl
 | some i =>
  have:l.any p=true:=by
   rw[List.any_eq_true];obtain⟨hi,hp,_⟩:=List.findIdx?_eq_some_iff_getElem.1 h;exact⟨l[i],List.getElem_mem hi,hp⟩
  rw[this];simp
theorem indexFuncI_any (l:List Int) (p:Int→Bool) (fn:FuncId) (cap:List Value) (v:Value) (B:Nat) (w:World) (h:Rd B w (zam l) v) (hB:B≤w.heap.size) (hn:l.length≤1099511627776)
  (hcf:∀ (args:Array Value) (W:World),(callFunc fn args).run Tryz.prog W=.ok (.enter fn args) W)
  (hf:∀ x ∈ l,∀ W:World,OI w w W→Calls Tryz.prog fn (Value.int .i64 x::cap).toArray W fun e W'=>e=.returned (.bool (p x))∧OI W W W') :
  Calls Tryz.prog 121 #[v,.func (.func fn) #[] cap.toArray] w fun e w'=>e=.returned (J (zbh p l))∧OI w w w':=by
 obtain⟨a,c,rfl,hnc,hcm,hcells⟩:=h.ints;clear h;have hnb:(l.length:Int)≤1099511627776:=II
 have HF:=IJ hf;clear hf;go_enter Tryz.func121,Tryz.ntmps121;go_wp2;go_loopw [8] (fun i wr=>∃ (k:Nat),k≤l.length∧i=J k∧(l.take k).any p=false∧OI w w wr) (fun i wr=>l.length-(intOf i).toNat)
 case atStart=>exact⟨0,Nat.zero_le _,rfl,by simp,Below.refl _ _⟩
 case round =>
  obtain⟨k,hk,rfl,hno,hb⟩:=hrel;have HN:=IJ hno;clear hno
  by_cases hlt:k<l.length
  ·obtain⟨b,off,rfl,hbl,hat⟩:=hcells II
   have s0:=hat k hlt;rw[← hb.cell (p:=⟨b,_,none⟩) (show b<w.heap.size by omega)] at s0;have HB:=IJ hb;clear hcells hat hb;go_wp2_with fail;refine (HF.out l[k] (List.getElem_mem hlt) _ HB.out).mono ?_;exact Q0c
  ·exact Q0x
theorem containsFuncI_any (l:List Int) (p:Int→Bool) (fn:FuncId) (cap:List Value) (v:Value) (B:Nat) (w:World) (h:Rd B w (zam l) v) (hB:B≤w.heap.size) (hn:l.length≤1099511627776)
  (hcf:∀ (args:Array Value) (W:World),(callFunc fn args).run Tryz.prog W=.ok (.enter fn args) W)
  (hf:∀ x ∈ l,∀ W:World,OI w w W→Calls Tryz.prog fn (Value.int .i64 x::cap).toArray W fun e W'=>e=.returned (.bool (p x))∧OI W W W') :
  Calls Tryz.prog 79 #[v,.func (.func fn) #[] cap.toArray] w fun e w'=>e=.returned (.bool (l.any p))∧OI w w w':=by
 have HC:=IJ (indexFuncI_any l p fn cap v B w h hB hn hcf hf);have HE:=IJ (zeb p l);clear hf h hcf;generalize l.any p=r at *;go_enter Tryz.func79,Tryz.ntmps79;go_wp2_with fail;refine (HC.out).mono ?_;rintro e w1 ⟨rfl,hb1⟩;have he:=HE.out;generalize zbh p l=m at *;go_wp2;go_ret;exact⟨rfl,hb1⟩
theorem zck (l:List Int) (lo hi:Int) (v:Value) (B:Nat) (w:World) (h:Rd B w (zam l) v) (hB:B≤w.heap.size) (hn:l.length≤1099511627776) :
  Calls Tryz.prog 43 #[v,J lo,J hi] w fun e w'=>e=.returned (.bool (l.all fun n=>inB n lo hi))∧OI w w w':=by
 have b0:OI w w ((w.alloc (.cells #[J lo] 2)).alloc (.cells #[J hi] 2)):=((Below.refl _ _).alloc (Nat.le_refl _) _).alloc Q4a _
 have HC:=IJ (containsFuncI_any l (fun n=>!inB n lo hi) 80 [.pointer (some ⟨w,0,none⟩),.pointer (some ⟨w.heap.size+1,0,none⟩)] v B ((w.alloc (.cells #[J lo] 2)).alloc (.cells #[J hi] 2)) (h.below (b0.mono hB)) Q41 hn (fun _ _=>by kernel_rfl) (fun x _ W hW=>by
  have c1:W.cell? ⟨w,0,none⟩=some (J lo):=by rw[hW.cell (p:=⟨w,0,none⟩) Q41];simp[go_sem]
  have c2:W.cell? ⟨w.heap.size+1,0,none⟩=some (J hi):=by rw[hW.cell (p:=⟨w.heap.size+1,0,none⟩) Q4a];simp[go_sem]
  clear hW;go_enter Tryz.func80,Tryz.ntmps80;go_wp2_with (go_at_call 34;refine (zal _ _ _ _).mono ?_;rintro e w' ⟨rfl,rfl⟩);go_ret
  exact⟨rfl,Below.refl _ _⟩))
 have B0:=IJ b0;have he:(!(l.any fun n=>!inB n lo hi))=(l.all fun n=>inB n lo hi):=by
  rw[List.not_any_eq_all_not];simp
 have HE:=IJ he;clear he;clear b0 h;generalize (l.any fun n=>!inB n lo hi)=r at *;generalize (l.all fun n=>inB n lo hi)=r2 at *;go_enter Tryz.func43,Tryz.ntmps43;go_wp2_with fail;refine (HC.out).mono ?_;rintro e w1 ⟨rfl,hb1⟩;go_wp2;go_ret;exact⟨by rw[← HE.out];rfl,B0.out.trans (hb1.mono Q41)⟩
def gi (l:List Int) (i:Nat):Int:=l.getD i 0
theorem gi_eq {l:List Int} {i:Nat} (h:i<l.length):l[i]=gi l i:=by simp[gi,h]
theorem zct {P:Program} {f:FuncId} {args:Array Value} {w:World} {n:Nat} {v:Value}
  (h:Calls P f args (w.drewN n) fun e w'=>e=.returned v∧w.drewN n=w'):Calls P f args (w.drewN n) fun e w''=>e=.returned v∧∃ m,w'' = w.drewN m :=
 h.mono fun _ _ ⟨he,hm⟩=>⟨he,n,hm.symm⟩
theorem all_iff (l:List Int) (lo hi:Int):(l.all fun n=>inB n lo hi)=true↔∀ i,i<l.length→inB (gi l i) lo hi=true:=by
 rw[List.all_eq_true]
 constructor
 ·intro h i hi
  have:=h l[i] (List.getElem_mem hi)
  rwa [gi_eq] at this
 ·intro h x hx
  obtain⟨i,hi,rfl⟩:=List.getElem_of_mem hx;have:=h i hi
  rwa [← gi_eq hi] at this
theorem infoMode:(Tryz.prog.info? 163).map (fun i=>(i.zero,i.size,i.bytes))=some (some (.agg #[J 0,J 0]),2,16):=by kernel_rfl
theorem infoSite:(Tryz.prog.info? 119).map (fun i=>(i.zero,i.size,i.bytes))=some (some (.agg #[IQ ⟨#[]⟩,IQ ⟨#[]⟩,J 0,J 0]),4,48):=by kernel_rfl
theorem infoSector:(Tryz.prog.info? 43).map (fun i=>(i.zero,i.size,i.bytes))=some (some (.agg #[IQ ⟨#[]⟩,IQ ⟨#[]⟩,IQ ⟨#[]⟩,IQ ⟨#[]⟩,IQ ⟨#[]⟩,J 0,J 0,J 0,J 0]),9,112):=by kernel_rfl
theorem infoAntenna:(Tryz.prog.info? 121).map (fun i=>(i.zero,i.size,i.bytes))=some (some (.agg #[IQ ⟨#[]⟩,J 0,IZ none 0 0,IZ none 0 0]),4,72):=by kernel_rfl
theorem infoRadio:(Tryz.prog.info? 125).map (fun i=>(i.zero,i.size,i.bytes))=some (some (.agg #[IQ ⟨#[]⟩,J 0,J 0,J 0,J 0,IZ none 0 0]),6,72):=by kernel_rfl
end Go.Proofs.YtpakghepnahooaaGreatDoor
