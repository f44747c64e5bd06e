/- Contracts: the lines of changes and the first line of registers, for the program and for the reference. Conditions: bounded sizes; the library's own variables hold what they hold at the start. -/
import Derived.Test.YtmkkiglcpedkiaaGreatDoorSr2
import Derived.Test.YtmkkiglcpedkiaaGreatDoorTree
import Derived.Test.YtmkkiglcpedkiaaGreatDoorFit
import Derived.Lib.JoinLaws
set_option linter.unusedVariables false
set_option linter.unusedSimpArgs false
namespace Go.Proofs.YtmkkiglcpedkiaaGreatDoor
open Go.RowKit
set_option maxHeartbeats 8000000
set_option maxRecDepth 100000
theorem joinN_len (xs:List (List UInt8)) (c:UInt8) (m:Nat) (h:∀ x ∈ xs,x.length≤m):(Go.Lib.join xs [c]).length≤xs.length*(m+1):=by
 cases xs with
 | nil=>simp[Go.Lib.join_nil]
 | cons x xs =>
  rw[Go.Lib.join_cons,List.length_append];have h1:=h x (by simp);have h2:(Go.Lib.joinTail [c] xs).length≤xs.length*(m+1):=by
   have h3:∀ y ∈ xs,y.length≤m:=fun y hy=>h y (by simp[hy])
   clear h h1;unfold Go.Lib.joinTail
   induction xs with
   | nil=>simp
   | cons y ys ih =>
    have h4:=h3 y (by simp);have h5:=ih (fun z hz=>h3 z (by simp[hz]));rw[List.map_cons,List.flatten_cons,List.length_append,List.length_append,List.length_cons,List.length_cons,Nat.succ_mul,List.length_nil];omega
  rw[List.length_cons,Nat.succ_mul];omega
theorem ofL_appN (a b:List UInt8):ofL a++ofL b=ofL (a++b):=by
 rw[← ofL_bl (ofL a++ofL b)]
 congr 1
theorem bl_app (a b:ByteArray):bl (a++b)=bl a++bl b:=by
 conv=>lhs;rw[← ofL_bl a,← ofL_bl b,ofL_appN,bl_ofL]
theorem joinN_any (W:World) (b c:Nat) (l:List ByteArray) (m:Nat) (hc:l.length≤c) (hl:l.length≤64) (hb:b<W.heap.size) (hm:∀ x ∈ l,x.size≤m) (hm2:m≤1073741824) (h:∀ (i:Nat) (hi:i<l.length),W.cell? ⟨b,i,none⟩=some (.string l[i])) :
  Calls Tryz.prog 63 #[.slice (some ⟨b,0,none⟩) l.length c,.string ⟨#[32]⟩] W fun e w'=>e=.returned (.string (ofL (Go.Lib.join (l.map bl) [32])))∧Below W.heap.size W w':=by
 refine Tryz.strings_Join b 0 c l ⟨#[32]⟩ W (fun j x hx=>by
  obtain⟨hj,e⟩:=List.getElem?_eq_some_iff.1 hx
  rw[Nat.zero_add,h j hj,e]) hb (by omega) hc ?_
 have:=joinN_len (l.map bl) 32 m (fun x hx=>by
  obtain⟨n,hn,rfl⟩:=List.mem_map.1 hx
  exact hm n hn)
 rw[List.length_map] at this;have h2:l.length*(m+1)≤64*(m+1):=Nat.mul_le_mul_right _ hl;exact Nat.le_trans this (by omega)
def bodyL (x:DChange):List UInt8:=Go.Lib.join [Go.Lib.itoa x.day,bl x.key,Go.Lib.itoa (x.old_.size:Int),Go.Lib.itoa (x.new_.size:Int),bl x.old_++bl x.new_] [32]
def lineL (x:DChange):List UInt8:=bodyL x++32::Go.Lib.itoa (crcL (bodyL x) 65535)
def REG:List UInt8:=[114,101,103,105,115,116,101,114,32]
def headL (n:Int):List UInt8:=REG++Go.Lib.itoa n
structure ChSmall (x:DChange):Prop where
 day:I64 x.day
 key:x.key.size≤1048576
 old_:x.old_.size≤1048576
 new_:x.new_.size≤1048576
theorem I64_nat {n:Nat} (h:n≤1099511627776):I64 (n:Int):=by constructor<;>omega
theorem bodyL_len {x:DChange} (h:ChSmall x):(bodyL x).length≤4000000:=by
 have h1:=Go.Lib.itoa_length_le x.day h.day.1 h.day.2;have h2:=Go.Lib.itoa_length_le (x.old_.size:Int) (by omega) (by have:=h.old_;omega);have h3:=Go.Lib.itoa_length_le (x.new_.size:Int) (by omega) (by have:=h.new_;omega);have h4:=h.key;have h5:=h.old_;have h6:=h.new_;unfold bodyL;simp only[Go.Lib.join_cons,Go.Lib.joinTail,List.map_cons,List.map_nil,List.flatten_cons,List.flatten_nil,List.length_append,List.length_cons,List.length_nil,bl_len];omega
theorem lineL_len {x:DChange} (h:ChSmall x):(lineL x).length≤4000100:=by
 have h1:=bodyL_len h;have h2:=crcL_I64 (bodyL x) 65535 (by constructor<;>omega);have h3:=Go.Lib.itoa_length_le _ h2.1 h2.2;unfold lineL;rw[List.length_append,List.length_cons];omega
theorem headL_len {n:Int} (h:I64 n):(headL n).length≤30:=by
 have:=Go.Lib.itoa_length_le n h.1 h.2;unfold headL REG;rw[List.length_append];simp<;>omega
theorem changeBody_any (x:DChange) (h:ChSmall x) (w:World) (L:LibW w):Calls Tryz.prog 35 #[.agg #[.int .i64 x.day,.string x.key,.string x.old_,.string x.new_]] w fun e w'=>e=.returned (.string (ofL (bodyL x)))∧Below w.heap.size w w':=by
 have l1:=Go.Lib.itoa_length_le x.day h.day.1 h.day.2;have l2:=Go.Lib.itoa_length_le (x.old_.size:Int) (by omega) (by have:=h.old_;omega);have l3:=Go.Lib.itoa_length_le (x.new_.size:Int) (by omega) (by have:=h.new_;omega);have l4:=h.key;have l5:=h.old_;have l6:=h.new_;have HX1:Hid (∀ W,LibW W→Calls Tryz.prog 34 #[.int .i64 x.day] W fun e w'=>e=.returned (.string (ofL (Go.Lib.itoa x.day)))∧Below W.heap.size W w'):=fun W hW=>decimal_any x.day h.day W hW
 have HX2:Hid (∀ W,LibW W→Calls Tryz.prog 34 #[.int .i64 (x.old_.size:Int)] W fun e w'=>e=.returned (.string (ofL (Go.Lib.itoa (x.old_.size:Int))))∧Below W.heap.size W w'):=fun W hW=>decimal_any _ (I64_nat (by omega)) W hW
 have HX3:Hid (∀ W,LibW W→Calls Tryz.prog 34 #[.int .i64 (x.new_.size:Int)] W fun e w'=>e=.returned (.string (ofL (Go.Lib.itoa (x.new_.size:Int))))∧Below W.heap.size W w'):=fun W hW=>decimal_any _ (I64_nat (by omega)) W hW
 have HE:Hid (ofL (Go.Lib.join ([ofL (Go.Lib.itoa x.day),x.key,ofL (Go.Lib.itoa (x.old_.size:Int)),ofL (Go.Lib.itoa (x.new_.size:Int)),x.old_++x.new_].map bl) [32])=ofL (bodyL x)):=by
  show _=_
  unfold bodyL;simp only[List.map_cons,List.map_nil,bl_ofL];have e:bl (x.old_++x.new_)=bl x.old_++bl x.new_:=by
   conv=>lhs;rw[← ofL_bl x.old_,← ofL_bl x.new_,ofL_appN,bl_ofL]
  rw[e]
 have m1:(ofL (Go.Lib.itoa x.day)).size≤21:=l1;have m2:(ofL (Go.Lib.itoa (x.old_.size:Int))).size≤21:=l2;have m3:(ofL (Go.Lib.itoa (x.new_.size:Int))).size≤21:=l3;have a1:=fun W:World=>run_string_add_sum (P:=Tryz.prog) (w:=W) x.old_ x.new_ (by omega)
 have m4:(x.old_++x.new_).size≤2097152:=by rw[ByteArray.size_append];omega
 generalize ofL (Go.Lib.itoa x.day)=s1 at *;generalize ofL (Go.Lib.itoa (x.old_.size:Int))=s2 at *;generalize ofL (Go.Lib.itoa (x.new_.size:Int))=s3 at *;generalize hs4:x.old_++x.new_=s4 at *;have HJ:Hid (∀ (W:World) (b:Nat),b<W.heap.size→W.heap[b]? = some (.cells #[.string s1,.string x.key,.string s2,.string s3,.string s4] 9 (0,0))→Calls Tryz.prog 63 #[.slice (some ⟨b,0,none⟩) 5 5,.string ⟨#[32]⟩] W fun e w'=>e=.returned (.string (ofL (bodyL x)))∧Below W.heap.size W w'):=fun W b hb hk=>by
  rw[← HE.out];refine joinN_any W b 5 [s1,x.key,s2,s3,s4] 2097152 (by simp) (by simp) hb (fun y hy=>?_) (by omega) (fun i hi=>?_)
  ·simp only[List.mem_cons,List.not_mem_nil,or_false] at hy
   rcases hy with rfl|rfl|rfl|rfl|rfl<;>omega
  ·have:i<5:=hi
   match i,this with
   | 0,_=>exact bkC hk 0 rfl
   | 1,_=>exact bkC hk 1 rfl
   | 2,_=>exact bkC hk 2 rfl
   | 3,_=>exact bkC hk 3 rfl
   | 4,_=>exact bkC hk 4 rfl
 obtain⟨W0,hW0,b0,z0,k0⟩:=boxes1 w #[.int .i64 x.day,.string x.key,.string x.old_,.string x.new_] 44;have HW0:=Lib.hid hW0;have HS2:Hid (∀ W,Below W0.heap.size W0 W→(W.cell? ⟨w.heap.size,0,none⟩=some (.int .i64 x.day)∧W.cell? ⟨w.heap.size,1,none⟩=some (.string x.key)∧W.cell? ⟨w.heap.size,2,none⟩=some (.string x.old_)∧W.cell? ⟨w.heap.size,3,none⟩=some (.string x.new_))):=fun W hW=>⟨bkC (bkB k0 hW (by omega)) 0 rfl,bkC (bkB k0 hW (by omega)) 1 rfl,bkC (bkB k0 hW (by omega)) 2 rfl,bkC (bkB k0 hW (by omega)) 3 rfl⟩
 have HB0:=Lib.hid b0;clear hW0 b0 k0 HE h l1 l2 l3 m1 m2 m3 m4 hs4;have hcl5:(x.old_.size:Int)≤1048576:=by omega
 have hcl6:(x.new_.size:Int)≤1048576:=by omega
 have HLW:Hid (∀ W,Below W0.heap.size W0 W→LibW W):=fun W hW=>L.mono (HB0.out.trans (hW.mono (by omega)))
 clear L;go_enter Tryz.func35,Tryz.ntmps35;go_upto_region 1 with (fail);rw[HW0.out];refine wp_region_ord 18 [(0,true),(1,true),(3,true),(4,true),(5,true),(6,true),(7,true),(9,true),(10,true),(11,true),(13,true),(14,true),(15,true),(16,true),(17,true),(2,false),(8,false),(12,false)] (fun W=>W.cell? ⟨w.heap.size,0,none⟩=some (.int .i64 x.day)∧W.cell? ⟨w.heap.size,1,none⟩=some (.string x.key)∧W.cell? ⟨w.heap.size,2,none⟩=some (.string x.old_)∧W.cell? ⟨w.heap.size,3,none⟩=some (.string x.new_)) (by kernel_rfl) (by kernel_rfl) (HS2.out _ (below_drew1 _)) (fun hHeld=>?_);refine wpOrd_read (v:=?_) rfl (fun _ _ _ h=>h) ?_ ?_
 rotate_left
 ·(intro W hSW;(try dsimp only at hSW);(go_simp<;>with_reducible rfl))
 (try simp only[Act.put,List.setIfInBounds_toArray,List.set_cons_zero,List.set_cons_succ])
 refine wpOrd_read (v:=?_) rfl (fun _ _ _ h=>h) ?_ ?_
 rotate_left
 ·(intro W hSW;(try dsimp only at hSW);(go_simp<;>with_reducible rfl))
 (try simp only[Act.put,List.setIfInBounds_toArray,List.set_cons_zero,List.set_cons_succ])
 refine wpOrd_read (v:=?_) rfl (fun _ _ _ h=>h) ?_ ?_
 rotate_left
 ·(intro W hSW;(try dsimp only at hSW);(go_simp<;>with_reducible rfl))
 (try simp only[Act.put,List.setIfInBounds_toArray,List.set_cons_zero,List.set_cons_succ])
 refine wpOrd_read (v:=?_) rfl (fun _ _ _ h=>h) ?_ ?_
 rotate_left
 ·(intro W hSW;(try dsimp only at hSW);(go_simp<;>with_reducible rfl))
 (try simp only[Act.put,List.setIfInBounds_toArray,List.set_cons_zero,List.set_cons_succ])
 refine wpOrd_read (v:=?_) rfl (fun _ _ _ h=>h) ?_ ?_
 rotate_left
 ·(intro W hSW;(try dsimp only at hSW);(go_simp<;>with_reducible rfl))
 (try simp only[Act.put,List.setIfInBounds_toArray,List.set_cons_zero,List.set_cons_succ])
 refine wpOrd_read (v:=?_) rfl (fun _ _ _ h=>h) ?_ ?_
 rotate_left
 ·(intro W hSW;(try dsimp only at hSW);(go_simp<;>with_reducible rfl))
 (try simp only[Act.put,List.setIfInBounds_toArray,List.set_cons_zero,List.set_cons_succ])
 refine wpOrd_read (v:=?_) rfl (fun _ _ _ h=>h) ?_ ?_
 rotate_left
 ·(intro W hSW;(try dsimp only at hSW);(go_simp<;>with_reducible rfl))
 (try simp only[Act.put,List.setIfInBounds_toArray,List.set_cons_zero,List.set_cons_succ])
 refine wpOrd_read (v:=?_) rfl (fun _ _ _ h=>h) ?_ ?_
 rotate_left
 ·(intro W hSW;(try dsimp only at hSW);(go_simp<;>with_reducible rfl))
 (try simp only[Act.put,List.setIfInBounds_toArray,List.set_cons_zero,List.set_cons_succ])
 refine wpOrd_read (v:=?_) rfl (fun _ _ _ h=>h) ?_ ?_
 rotate_left
 ·(intro W hSW;(try dsimp only at hSW);(go_simp<;>with_reducible rfl))
 (try simp only[Act.put,List.setIfInBounds_toArray,List.set_cons_zero,List.set_cons_succ])
 refine wpOrd_read (v:=?_) rfl (fun _ _ _ h=>h) ?_ ?_
 rotate_left
 ·(intro W hSW;(try dsimp only at hSW);(go_simp<;>with_reducible rfl))
 (try simp only[Act.put,List.setIfInBounds_toArray,List.set_cons_zero,List.set_cons_succ])
 refine wpOrd_read (v:=?_) rfl (fun _ _ _ h=>h) ?_ ?_
 rotate_left
 ·(intro W hSW;(try dsimp only at hSW);(go_simp<;>with_reducible rfl))
 (try simp only[Act.put,List.setIfInBounds_toArray,List.set_cons_zero,List.set_cons_succ])
 refine wpOrd_read (v:=?_) rfl (fun _ _ _ h=>h) ?_ ?_
 rotate_left
 ·(intro W hSW;(try dsimp only at hSW);(go_simp<;>with_reducible rfl))
 (try simp only[Act.put,List.setIfInBounds_toArray,List.set_cons_zero,List.set_cons_succ])
 refine wpOrd_read (v:=?_) rfl (fun _ _ _ h=>h) ?_ ?_
 rotate_left
 ·(intro W hSW;(try dsimp only at hSW);(go_simp<;>with_reducible rfl))
 (try simp only[Act.put,List.setIfInBounds_toArray,List.set_cons_zero,List.set_cons_succ])
 refine wpOrd_read (v:=?_) rfl (fun _ _ _ h=>h) ?_ ?_
 rotate_left
 ·(intro W hSW;(try dsimp only at hSW);(go_simp<;>with_reducible rfl))
 (try simp only[Act.put,List.setIfInBounds_toArray,List.set_cons_zero,List.set_cons_succ])
 refine wpOrd_read (v:=?_) rfl (fun _ _ _ h=>h) ?_ ?_
 rotate_left
 ·(intro W hSW;(try dsimp only at hSW);(go_simp<;>with_reducible rfl))
 (try simp only[Act.put,List.setIfInBounds_toArray,List.set_cons_zero,List.set_cons_succ])
 have HBD:=Lib.hid ((below_drew1 W0).mono (Nat.le_refl _));have hzd:W0.heap.size≤W0.drew.heap.size:=Nat.le_refl _;have HSD:Hid (∀ W,Below W0.drew.heap.size W0.drew W→(W.cell? ⟨w.heap.size,0,none⟩=some (.int .i64 x.day)∧W.cell? ⟨w.heap.size,1,none⟩=some (.string x.key)∧W.cell? ⟨w.heap.size,2,none⟩=some (.string x.old_)∧W.cell? ⟨w.heap.size,3,none⟩=some (.string x.new_))):=fun W hW=>HS2.out W ((below_drew1 W0).trans (hW.mono hzd))
 generalize W0.drew=w3 at *;have HL3:Hid (∀ W,Below w3.heap.size w3 W→LibW W):=fun W hW=>HLW.out W (HBD.out.trans (hW.mono hzd))
 refine wpOrd_step rfl (fun K hK=>?_);go_simp;refine (HX1.out w3 (HL3.out _ (Below.refl _ _))).mono ?_;rintro e w4 ⟨rfl,hb4⟩;refine hK.out _ _ (HSD.out _ hb4) ?_;clear hK K
 (try simp only[Act.put,List.setIfInBounds_toArray,List.set_cons_zero,List.set_cons_succ])
 have HB4:=Lib.hid hb4;clear hb4;refine wpOrd_step rfl (fun K hK=>?_);go_simp;refine (HX2.out w4 (HL3.out _ HB4.out)).mono ?_;rintro e w5 ⟨rfl,hb5⟩;refine hK.out _ _ (HSD.out _ (HB4.out.trans (hb5.mono HB4.out.size))) ?_;clear hK K
 (try simp only[Act.put,List.setIfInBounds_toArray,List.set_cons_zero,List.set_cons_succ])
 have HB5:=Lib.hid (HB4.out.trans (hb5.mono HB4.out.size));clear hb5;refine wpOrd_step rfl (fun K hK=>?_);go_simp;refine (HX3.out w5 (HL3.out _ HB5.out)).mono ?_;rintro e w6 ⟨rfl,hb6⟩;refine hK.out _ _ (HSD.out _ (HB5.out.trans (hb6.mono HB5.out.size))) ?_;clear hK K
 (try simp only[Act.put,List.setIfInBounds_toArray,List.set_cons_zero,List.set_cons_succ])
 have HB6:=Lib.hid (HB5.out.trans (hb6.mono HB5.out.size));clear hb6;refine wpOrd_nil ?_;simp only[List.drop_succ_cons,List.drop_zero];have z6:=HB6.out.size;go_wp2_with fail;obtain⟨W8,hW8,b8,z8,k8⟩:=boxes1 w6 #[.string s1,.string x.key,.string s2,.string s3,.string s4] 9;rw[hW8];clear hW8;refine (HJ.out W8 w6.heap.size (by omega) k8).mono ?_;rintro e w9 ⟨rfl,hb9⟩;have HB9:=Lib.hid (HB0.out.trans ((HBD.out.trans ((HB6.out.trans ((b8.trans (hb9.mono (by omega))).mono z6)).mono hzd)).mono HB0.out.size));clear b8 k8 hb9;go_wp2;go_ret;exact⟨rfl,HB9.out⟩
theorem changeLine_any (x:DChange) (h:ChSmall x) (w:World) (L:LibW w):Calls Tryz.prog 17 #[.agg #[.int .i64 x.day,.string x.key,.string x.old_,.string x.new_]] w fun e w'=>e=.returned (.string (ofL (lineL x)))∧Below w.heap.size w w':=by
 have lb:=bodyL_len h;have hcI:=crcL_I64 (bodyL x) 65535 (by constructor<;>omega);have lc:=Go.Lib.itoa_length_le _ hcI.1 hcI.2;have HBO:Hid (∀ W,LibW W→Calls Tryz.prog 35 #[.agg #[.int .i64 x.day,.string x.key,.string x.old_,.string x.new_]] W fun e w'=>e=.returned (.string (ofL (bodyL x)))∧Below W.heap.size W w'):=fun W hW=>changeBody_any x h W hW
 have HCR:Hid (∀ W,Calls Tryz.prog 36 #[.string (ofL (bodyL x)),.int .i64 65535] W fun e w'=>e=.returned (.int .i64 (crcL (bodyL x) 65535))∧Below W.heap.size W w'):=fun W=>(crc16_any (ofL (bodyL x)) (by rw[ofL_size];omega) W).mono fun e w' ⟨he,hw⟩=>⟨by rw[he,bl_ofL],hw ▸ Below.refl _ _⟩
 have HDC:Hid (∀ W,LibW W→Calls Tryz.prog 34 #[.int .i64 (crcL (bodyL x) 65535)] W fun e w'=>e=.returned (.string (ofL (Go.Lib.itoa (crcL (bodyL x) 65535))))∧Below W.heap.size W w'):=fun W hW=>decimal_any _ hcI W hW
 have HE:Hid (ofL (bodyL x)++⟨#[32]⟩++ofL (Go.Lib.itoa (crcL (bodyL x) 65535))=ofL (lineL x)):=by
  show _=_
  unfold lineL;rw[show (⟨#[32]⟩:ByteArray)=ofL [32] from rfl,ofL_appN,ofL_appN];simp
 have m1:(ofL (bodyL x)).size≤4000000:=lb;have m2:(ofL (Go.Lib.itoa (crcL (bodyL x) 65535))).size≤21:=lc;generalize ofL (bodyL x)=s1 at *;generalize crcL (bodyL x) 65535=c at *;generalize ofL (Go.Lib.itoa c)=s2 at *;have c1:(⟨#[32]⟩:ByteArray).size=1:=rfl;have a1:=fun W:World=>run_string_add_sum (P:=Tryz.prog) (w:=W) s1 ⟨#[32]⟩ (by rw[c1];omega)
 have a2:=fun W:World=>run_string_add_sum (P:=Tryz.prog) (w:=W) (s1++⟨#[32]⟩) s2 (by rw[ByteArray.size_append,c1];omega)
 obtain⟨W0,hW0,b0,z0,k0⟩:=boxes1 w #[.int .i64 x.day,.string x.key,.string x.old_,.string x.new_] 44;have HW0:=Lib.hid hW0;have q0:=bkC (v:=.int .i64 x.day) k0 0 rfl;have q1:=bkC (v:=.string x.key) k0 1 rfl;have q2:=bkC (v:=.string x.old_) k0 2 rfl;have q3:=bkC (v:=.string x.new_) k0 3 rfl;have HB0:=Lib.hid b0;have HLW:Hid (∀ X,LibW (over W0.heap.size W0 X)):=fun X=>L.mono (HB0.out.trans ((over_below W0.heap.size W0 X).mono (by omega)))
 have oB:=overC (w0:=W0) (show w.heap.size<W0.heap.size by omega);clear hW0 b0 k0 h lb lc hcI L c1;go_enter Tryz.func17,Tryz.ntmps17;go_upto_region 1 with (fail);rw[HW0.out];refine wp_region_over W0.heap.size W0 (Below.refl _ _) (by kernel_rfl) (by kernel_rfl) ?_
 repeat (go_big_quiet_step (first|(go_at_call 35;with_reducible exact over_left (Nat.le_refl _) (HBO.out _ (HLW.out _)))|(go_at_call 36;with_reducible exact over_left (Nat.le_refl _) (HCR.out _))|(go_at_call 34;with_reducible exact over_left (Nat.le_refl _) (HDC.out _ (HLW.out _)))))
 refine wpQuiet_nil ?_;rintro _ ⟨X,rfl⟩;have BE:=Lib.hid (HB0.out.trans ((over_below W0.heap.size W0 X).mono (by omega)));clear oB q0 q1 q2 q3;generalize over W0.heap.size W0 X=w9 at *;go_wp2;go_ret;exact⟨by rw[HE.out];rfl,BE.out⟩
theorem registerHead_any (n:Int) (hn:I64 n) (w:World) (L:LibW w):Calls Tryz.prog 16 #[.int .i64 n] w fun e w'=>e=.returned (.string (ofL (headL n)))∧Below w.heap.size w w':=by
 have lc:=Go.Lib.itoa_length_le _ hn.1 hn.2;have HDC:Hid (∀ W,LibW W→Calls Tryz.prog 34 #[.int .i64 n] W fun e w'=>e=.returned (.string (ofL (Go.Lib.itoa n)))∧Below W.heap.size W w'):=fun W hW=>decimal_any _ hn W hW
 have HE:Hid (⟨#[114,101,103,105,115,116,101,114,32]⟩++ofL (Go.Lib.itoa n)=ofL (headL n)):=by
  show _=_
  unfold headL REG;rw[← ofL_appN];rfl
 have m2:(ofL (Go.Lib.itoa n)).size≤21:=lc;generalize ofL (Go.Lib.itoa n)=s2 at *;have c1:(⟨#[114,101,103,105,115,116,101,114,32]⟩:ByteArray).size=9:=rfl;have a1:=fun W:World=>run_string_add_sum (P:=Tryz.prog) (w:=W) ⟨#[114,101,103,105,115,116,101,114,32]⟩ s2 (by rw[c1];omega)
 have HL:=Lib.hid L;clear L c1 lc hn;go_enter Tryz.func16,Tryz.ntmps16;go_wp2_with (go_at_call 34;with_reducible refine (HDC.out _ HL.out).mono ?_;rintro e w1 ⟨rfl,hb1⟩);go_ret;exact⟨by rw[HE.out];rfl,hb1⟩
theorem l28Frame_any (x:DChange) (h:ChSmall x) (b off:Nat) (w:World) (c0:w.cell? ⟨b,off,none⟩=some (.int .i64 x.day)) (c1:w.cell? ⟨b,off+1,none⟩=some (.string x.key)) (c2:w.cell? ⟨b,off+2,none⟩=some (.string x.old_)) (c3:w.cell? ⟨b,off+3,none⟩=some (.string x.new_)) :
  Calls Tryz.prog 54 #[.pointer (some ⟨b,off,none⟩)] w fun e w'=>e=.returned (.string (ofL (lineL x)))∧Below w.heap.size w w':=by
 have lb:=bodyL_len h;have hcI:=crcL_I64 (bodyL x) 65535 (by constructor<;>omega);have lc:=Go.Lib.itoa_length_le _ hcI.1 hcI.2;have l1:=Go.Lib.itoa_length_le x.day h.day.1 h.day.2;have l2:=Go.Lib.itoa_length_le (x.old_.size:Int) (by omega) (by have:=h.old_;omega);have l3:=Go.Lib.itoa_length_le (x.new_.size:Int) (by omega) (by have:=h.new_;omega);have l4:=h.key;have l5:=h.old_;have l6:=h.new_;have HX1:Hid (∀ W,Calls Tryz.prog 53 #[.int .i64 x.day] W fun e w'=>e=.returned (.string (ofL (Go.Lib.itoa x.day)))∧Below W.heap.size W w'):=fun W=>l01Dec_any x.day h.day W
 have HX2:Hid (∀ W,Calls Tryz.prog 53 #[.int .i64 (x.old_.size:Int)] W fun e w'=>e=.returned (.string (ofL (Go.Lib.itoa (x.old_.size:Int))))∧Below W.heap.size W w'):=fun W=>l01Dec_any _ (I64_nat (by omega)) W
 have HX3:Hid (∀ W,Calls Tryz.prog 53 #[.int .i64 (x.new_.size:Int)] W fun e w'=>e=.returned (.string (ofL (Go.Lib.itoa (x.new_.size:Int))))∧Below W.heap.size W w'):=fun W=>l01Dec_any _ (I64_nat (by omega)) W
 have HCR:Hid (∀ W,Calls Tryz.prog 80 #[.string (ofL (bodyL x)),.int .i64 65535] W fun e w'=>e=.returned (.int .i64 (crcL (bodyL x) 65535))∧W=w'):=fun W=>(l01Crc_any (ofL (bodyL x)) 65535 (by rw[ofL_size];omega) W).mono fun e w' ⟨he,hw⟩=>⟨by rw[he,bl_ofL],hw⟩
 have HDC:Hid (∀ W,Calls Tryz.prog 53 #[.int .i64 (crcL (bodyL x) 65535)] W fun e w'=>e=.returned (.string (ofL (Go.Lib.itoa (crcL (bodyL x) 65535))))∧Below W.heap.size W w'):=fun W=>l01Dec_any _ hcI W
 have HE:Hid (ofL (bodyL x)++⟨#[32]⟩++ofL (Go.Lib.itoa (crcL (bodyL x) 65535))=ofL (lineL x)):=by
  show _=_
  unfold lineL;rw[show (⟨#[32]⟩:ByteArray)=ofL [32] from rfl,ofL_appN,ofL_appN];simp
 have HF:Hid (ofL (Go.Lib.itoa x.day)++⟨#[32]⟩++x.key++⟨#[32]⟩++ofL (Go.Lib.itoa (x.old_.size:Int))++⟨#[32]⟩++ofL (Go.Lib.itoa (x.new_.size:Int))++⟨#[32]⟩++x.old_++x.new_=ofL (bodyL x)):=by
  show _=_
  symm
  rw[ofL_eq];unfold bodyL;simp only[bl_app,bl_ofL];rw[show bl ⟨#[32]⟩ = [32] from rfl];simp[Go.Lib.join_cons,Go.Lib.joinTail]
 have m1:(ofL (bodyL x)).size≤4000000:=lb;have m2:(ofL (Go.Lib.itoa (crcL (bodyL x) 65535))).size≤21:=lc;have m3:(ofL (Go.Lib.itoa x.day)).size≤21:=l1;have m4:(ofL (Go.Lib.itoa (x.old_.size:Int))).size≤21:=l2;have m5:(ofL (Go.Lib.itoa (x.new_.size:Int))).size≤21:=l3;generalize ofL (bodyL x)=sb at *;generalize crcL (bodyL x) 65535=c at *;generalize ofL (Go.Lib.itoa c)=sc at *;generalize ofL (Go.Lib.itoa x.day)=s1 at *;generalize ofL (Go.Lib.itoa (x.old_.size:Int))=s2 at *;generalize ofL (Go.Lib.itoa (x.new_.size:Int))=s3 at *;have d1:(⟨#[32]⟩:ByteArray).size=1:=rfl;have a1:=fun W:World=>run_string_add_sum (P:=Tryz.prog) (w:=W) sb ⟨#[32]⟩ (by rw[d1];omega)
 have a2:=fun W:World=>run_string_add_sum (P:=Tryz.prog) (w:=W) (sb++⟨#[32]⟩) sc (by rw[ByteArray.size_append,d1];omega)
 have e0:=fun W:World=>run_string_add_sum (P:=Tryz.prog) (w:=W) (s1) ⟨#[32]⟩ (by simp only[ByteArray.size_append,d1];omega)
 have e1:=fun W:World=>run_string_add_sum (P:=Tryz.prog) (w:=W) (s1++⟨#[32]⟩) x.key (by simp only[ByteArray.size_append,d1];omega)
 have e2:=fun W:World=>run_string_add_sum (P:=Tryz.prog) (w:=W) (s1++⟨#[32]⟩++x.key) ⟨#[32]⟩ (by simp only[ByteArray.size_append,d1];omega)
 have e3:=fun W:World=>run_string_add_sum (P:=Tryz.prog) (w:=W) (s1++⟨#[32]⟩++x.key++⟨#[32]⟩) s2 (by simp only[ByteArray.size_append,d1];omega)
 have e4:=fun W:World=>run_string_add_sum (P:=Tryz.prog) (w:=W) (s1++⟨#[32]⟩++x.key++⟨#[32]⟩++s2) ⟨#[32]⟩ (by simp only[ByteArray.size_append,d1];omega)
 have e5:=fun W:World=>run_string_add_sum (P:=Tryz.prog) (w:=W) (s1++⟨#[32]⟩++x.key++⟨#[32]⟩++s2++⟨#[32]⟩) s3 (by simp only[ByteArray.size_append,d1];omega)
 have e6:=fun W:World=>run_string_add_sum (P:=Tryz.prog) (w:=W) (s1++⟨#[32]⟩++x.key++⟨#[32]⟩++s2++⟨#[32]⟩++s3) ⟨#[32]⟩ (by simp only[ByteArray.size_append,d1];omega)
 have e7:=fun W:World=>run_string_add_sum (P:=Tryz.prog) (w:=W) (s1++⟨#[32]⟩++x.key++⟨#[32]⟩++s2++⟨#[32]⟩++s3++⟨#[32]⟩) x.old_ (by simp only[ByteArray.size_append,d1];omega)
 have e8:=fun W:World=>run_string_add_sum (P:=Tryz.prog) (w:=W) (s1++⟨#[32]⟩++x.key++⟨#[32]⟩++s2++⟨#[32]⟩++s3++⟨#[32]⟩++x.old_) x.new_ (by simp only[ByteArray.size_append,d1];omega)
 have hcl5:(x.old_.size:Int)≤1048576:=by omega
 have hcl6:(x.new_.size:Int)≤1048576:=by omega
 have hbw:=cell_lt c0
 dsimp only at hbw
 have oB:=overC (w0:=w) hbw;clear h lb lc hcI d1 l1 l2 l3 m1 m2 m3 m4 m5;go_enter Tryz.func54,Tryz.ntmps54;go_upto_region 1 with (fail);refine wp_region_over w.heap.size w (Below.refl _ _) (by kernel_rfl) (by kernel_rfl) ?_
 repeat (go_big_quiet_step (first|(go_at_call 53;with_reducible exact over_left (Nat.le_refl _) (HX1.out _))|(go_at_call 53;with_reducible exact over_left (Nat.le_refl _) (HX2.out _))|(go_at_call 53;with_reducible exact over_left (Nat.le_refl _) (HX3.out _))))
 refine wpQuiet_nil ?_;rintro _ ⟨X,rfl⟩;have BE:=Lib.hid (over_below w.heap.size w X);clear oB c0 c1 c2 c3 e0 e1 e2 e3 e4 e5 e6 e7 e8;generalize over w.heap.size w X=w9 at *;rw[HF.out];go_wp2_with (first|(go_at_call 80;with_reducible refine (HCR.out _).mono ?_;rintro e w1 ⟨rfl,rfl⟩)|(go_at_call 53;with_reducible refine (HDC.out _).mono ?_;rintro e w1 ⟨rfl,hb1⟩));go_ret;exact⟨by rw[HE.out];rfl,BE.out.trans (hb1.mono BE.out.size)⟩
end Go.Proofs.YtmkkiglcpedkiaaGreatDoor
