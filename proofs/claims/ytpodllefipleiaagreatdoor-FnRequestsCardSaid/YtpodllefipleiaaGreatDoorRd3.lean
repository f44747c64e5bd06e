/- Contracts: texts divided, lists of numbers written and read, for the program and for the reference. Conditions: bounded sizes; the library's own variables hold what they hold at the start. -/
import Derived.Test.YtpodllefipleiaaGreatDoorRd2
import Derived.Lib.JoinLaws
set_option linter.unusedVariables false
set_option linter.unusedSimpArgs false
namespace Go.Proofs.YtpodllefipleiaaGreatDoor
open Go.RowKit
set_option maxHeartbeats 8000000
set_option maxRecDepth 100000
theorem own_emptyS (w:World) (E:Nat) (cells:Array Value) (c:Nat) (hc:cells.size=c) (hm:c≤maxLen):(w.alloc (.cells cells E)).ownsRow w.heap.size E 1 (.slice (some ⟨w.heap.size,0,none⟩) 0 c) 0 [] :=
 ⟨rfl,Or.inr ⟨w.heap.size,c,cells,rfl,Nat.le_refl _,by show (w.heap.push _)[w.heap.size]? = _;simp,Nat.zero_le _,hm,by omega,by simp⟩⟩
theorem grow_room (w:World) (E:Nat) (cells:Array Value) (c:Nat) (hc:cells.size=c) (hm:c≤maxLen):Grow (w.alloc (.cells cells E)) w.heap.size E 1 (.slice (some ⟨w.heap.size,0,none⟩) 0 c) 0 [] [] :=
 ⟨⟨[],own_emptyS w E cells c hc hm,rfl⟩,List.nodup_nil,fun b h=>by simp at h,fun g _=>by simp⟩
theorem infoStr:(Tryz.prog.info? 9).map (fun i=>(i.zero,i.size,i.bytes))=some (some (.string ⟨#[]⟩),1,16):=by kernel_rfl
theorem rd_fresh (w:World) (E:Nat) (cells:Array Value) (l:List ByteArray) (c:Nat) (hc:l.length≤c) (hm:c≤maxLen) (h:∀ (i:Nat) (hi:i<l.length),cells[i]? = some (.string l[i])) :
  Rd (w.heap.size+1) (w.alloc (.cells cells E)) (strsT l) (.slice (some ⟨w.heap.size,0,none⟩) l.length c):=by
 by_cases h0:l = []
 ·subst h0
  exact⟨[],za5.2 ⟨_,0,c,rfl,by simp,Nat.zero_le _,hm,Or.inl ⟨rfl,rfl⟩⟩,fun b hb=>by simp at hb⟩
 ·refine⟨[w.heap.size],za5.2 ⟨_,l.length,c,rfl,by simp,hc,hm,Or.inr ⟨w.heap.size,0,[],by simpa using h0,rfl,rfl,?_⟩⟩,fun b hb=>by simp at hb;omega⟩
  have e:l.map strT=(l.map Value.string).map Tr.lit:=by rw[List.map_map];rfl
  rw[e];refine Reps.lits _ _ _ (fun i hi=>?_);have hi':i<l.length:=by simpa using hi
  have:=h i hi';have hh:(w.alloc (.cells cells E)).heap[w.heap.size]? = some (.cells cells E (0,0)):=by show (w.heap.push _)[w.heap.size]? = _;simp
  simp only[List.getElem_map,Nat.zero_add];rw[zae hh];exact this
theorem len_words (c:UInt8) (s:ByteArray):(zbf c s).length≤s.size+1:=by
 rw[wordsB_len];have:=List.count_le_length (a:=c) (l:=bl s);rw[bl_len] at this;omega
theorem iSplit_any (s:ByteArray) (c:UInt8) (hs:s.size≤1048576) (w:World) (L:LibW w) :
  Calls Tryz.prog 53 #[.string s,.string ⟨#[c]⟩] w fun e w'=>∃ a cc,e=.returned (.slice a (zbf c s).length cc)∧Below w.heap.size w w'∧Rd w'.heap.size w' (strsT (zbf c s)) (.slice a (zbf c s).length cc):=by
 obtain⟨m,hm⟩:=L.m;refine (Tryz.strings_Split s ⟨#[c]⟩ m w (by omega) hm (Nat.le_refl 1)).mono fun e w' ⟨he,hw⟩=>?_
 have hl:Go.Lib.countB s ⟨#[c]⟩+1=(zbf c s).length:=by rw[countB_one,wordsB_len]
 have hlw:=len_words c s;subst hw;rw[hl] at he;refine⟨_,_,he,(Below.refl _ _).alloc (Nat.le_refl _) _,?_⟩
 have:=rd_fresh w 9 ((Go.Lib.splitB ⟨#[c]⟩ 0 (Go.Lib.countB s ⟨#[c]⟩) s).map Value.string).toArray (zbf c s) (zbf c s).length (Nat.le_refl _) (by unfold maxLen;omega) (fun i hi=>by
  rw[splitB_all_words];simp[hi])
 exact this.mono (by simp)
def zch (c:UInt8) (s:ByteArray):List ByteArray:=(zau c 64 (bl s)).map ofL
theorem iSplitN_any (s:ByteArray) (c:UInt8) (hs:s.size≤1048576) (w:World) (L:LibW w) :
  Calls Tryz.prog 31 #[.string s,.string ⟨#[c]⟩,.int .i64 65] w fun e w'=>∃ a cc,e=.returned (.slice a (zch c s).length cc)∧Below w.heap.size w w'∧Rd w'.heap.size w' (strsT (zch c s)) (.slice a (zch c s).length cc)∧(zch c s).length≤65:=by
 obtain⟨m,hm⟩:=L.m;refine (Tryz.strings_SplitN s ⟨#[c]⟩ 65 m w (by omega) hm (Nat.le_refl 1) (by omega) (by omega)).mono fun e w' ⟨he,hw⟩=>?_
 have hk:zau c (min 65 (s.size+1)-1) (bl s)=zau c 64 (bl s):=by
  have:=splitN_min c 64 (bl s);rw[bl_len] at this;exact this
 have hwd:Go.Lib.splitB ⟨#[c]⟩ 0 (min 65 (s.size+1)-1) s=zch c s:=by rw[splitB_words,hk];rfl
 have hle:=Go.Lib.splitB_length_le ⟨#[c]⟩ 0 (min 65 (s.size+1)-1) s;rw[hwd] at he hle;subst hw;rw[hwd];refine⟨_,_,he,(Below.refl _ _).alloc (Nat.le_refl _) _,?_,by omega⟩
 have:=rd_fresh w 9 (Go.Lib.cellsOf (zch c s) (min 65 (s.size+1))) (zch c s) (min 65 (s.size+1)) (by omega) (by unfold maxLen;omega) (fun i hi=>by
  unfold Go.Lib.cellsOf
  rw[List.getElem?_toArray,List.getElem?_append_left (by simpa using hi)];simp[hi])
 exact this.mono (by simp)
theorem listText_long {l:List Int} (h:64<l.length):zag l = []:=by unfold zag;rw[if_pos h]
theorem listText_bad {l:List Int} (k:Nat) (h:k<l.length) (hb:bnd l[k]=false):zag l = []:=by
 unfold zag
 split
 ·rfl
 ·rw[if_neg (by rintro rfl;simp at h),if_neg]
  intro e;have:=List.all_eq_true.1 e l[k] (List.getElem_mem h);rw[hb] at this;cases this
theorem listText_good {l:List Int} (h1:l.length≤64) (h2:l≠[]) (h:l.all bnd=true):zag l=Go.Lib.join (l.map Go.Lib.itoa) [44]:=by
 unfold zag;rw[if_neg (by omega),if_neg h2,if_pos h]
theorem join_len (xs:List (List UInt8)) (c:UInt8) (m:Nat) (h:∀ x ∈ xs,x.length≤m):(Go.Lib.join xs [c]).length≤xs.length*(m+1):=by
 cases xs with
 | nil=>simp[Go.Lib.join_nil]
 | cons x xs =>
  rw[Go.Lib.join_cons,List.length_append];have h1:=h x (by simp);have h2:(Go.Lib.joinTail [c] xs).length≤xs.length*(m+1):=by
   have h3:∀ y ∈ xs,y.length≤m:=fun y hy=>h y (by simp[hy])
   clear h h1;unfold Go.Lib.joinTail
   induction xs with
   | nil=>simp
   | cons y ys ih =>
    have h4:=h3 y (by simp);have h5:=ih (fun z hz=>h3 z (by simp[hz]));rw[List.map_cons,List.flatten_cons,List.length_append,List.length_append,List.length_cons,List.length_cons,Nat.succ_mul,List.length_nil];omega
  rw[List.length_cons,Nat.succ_mul];omega
theorem listText_any (l:List Int) (v:Value) (B:Nat) (w:World) (L:LibW w) (h:Rd B w (intsT l) v) (hB:B≤w.heap.size) (hn:l.length≤1048576) (hk:∀ n ∈ l,I64 n) :
  Calls Tryz.prog 58 #[v] w fun e w'=>e=.returned (.string (ofL (zag l)))∧Below w.heap.size w w':=by
 obtain⟨a,c,rfl,hlc,hcm,hcl⟩:=Rd.ints h;unfold maxLen at hcm;clear h
 by_cases h1:64<l.length
 ·have HE:=Lib.hid (listText_long h1)
  have h1i:(64:Int)<(l.length:Int):=by omega
  go_enter Tryz.func58,Tryz.ntmps58;go_wp2;go_ret;exact⟨by rw[HE.out];rfl,Below.refl _ _⟩
 have h1i:(l.length:Int)≤64:=by omega
 by_cases h2:l = []
 ·subst h2
  go_enter Tryz.func58,Tryz.ntmps58;go_wp2;go_ret;exact⟨rfl,Below.refl _ _⟩
 have h2p:0<l.length:=List.length_pos_iff.2 h2;have h2q:((l.length:Int) == 0)=false:=by rw[beq_eq_false_iff_ne];omega
 obtain⟨b,off,rfl,hbB,hat⟩:=hcl h2p;have hmk:=fun W:World=>Go.run_make_room (P:=Tryz.prog) 67 9 _ 16 Tryz.underlying67 infoStr rfl .i64 .i64 l.length (by omega) (by omega) W
 have hB0:Hid (Below w.heap.size w (w.alloc (.cells (madeCells #[.string ⟨#[]⟩] l.length) 9))):=(Below.refl _ _).alloc (Nat.le_refl _) _;have hG0:=Lib.hid (grow_room w 9 (madeCells #[.string ⟨#[]⟩] l.length) l.length (size_madeCells _ _) (by unfold maxLen;omega));obtain⟨i0,hi0,hz0,hz1,hz2⟩:=info_parts infoStr;have hbw:b<w.heap.size:=by omega
 have HL:=Lib.hid L;have HC:=Lib.hid hat;have HNE:=Lib.hid h2;have HKI:=Lib.hid hk;clear hat hcl L h2 h1 hk;go_enter Tryz.func58,Tryz.ntmps58;go_wp2;clear hmk;go_loopw [3,17] (fun v i wr=>∃ (k:Nat),k≤l.length∧i=.int .i64 k∧(l.take k).all bnd=true∧Below w.heap.size w wr∧Grow wr w.heap.size 9 1 v k ((l.take k).map (fun n=>strT (ofL (Go.Lib.itoa n)))) []) (fun _ i wr=>l.length-(intOf i).toNat)
 case atStart=>exact⟨0,Nat.zero_le _,rfl,rfl,hB0.out,by simpa using hG0.out⟩
 case round =>
  obtain⟨k,hk,rfl,hall,hb,hgr⟩:=hrel;have HA:=Lib.hid hall;have HB:=Lib.hid hb;have HG:=Lib.hid hgr;have zr:=hb.size;clear hb hgr hall
  by_cases hlt:k<l.length
  ·have hc:=HC.out k hlt
   rw[← bat HB.out b _ hbw] at hc;have HNI:=Lib.hid (HKI.out l[k] (List.getElem_mem hlt));have HTK:=Lib.hid (List.take_succ_eq_append_getElem hlt);have HBAD:Hid (bnd l[k]=false→zag l = []):=fun hb=>listText_bad k hlt hb
   have yb:b<wr.heap.size:=by omega
   generalize l[k]=n at *
   by_cases hbn:bnd n=true
   ·have hiB:inB n (-1000000000000) 1000000000000=true:=hbn
    have HBN:=Lib.hid hbn;clear hbn;have HW:Hid (∀ W,Calls Tryz.prog 59 #[.int .i64 n,.int .i64 (-1000000000000),.int .i64 1000000000000] W fun e w'=>e=.returned (.bool true)∧W=w'):=fun W=>by
     have:=zap n (-1000000000000) 1000000000000 W;rw[hiB] at this;exact this
    have HDC:Hid (∀ W,LibW W→Calls Tryz.prog 34 #[.int .i64 n] W fun e w'=>e=.returned (.string (ofL (Go.Lib.itoa n)))∧Below W.heap.size W w'):=fun W hW=>decimal_any n HNI.out W hW
    clear hiB;go_wp2_with (first|(go_at_call 59;with_reducible refine (HW.out _).mono ?_;rintro e w1 ⟨rfl,rfl⟩)|(go_at_call 34;with_reducible refine (HDC.out _ (HL.out.mono HB.out)).mono ?_;rintro e w1 ⟨rfl,hb1⟩;have HB1:=Lib.hid hb1;clear hb1;have z1:=HB1.out.size;have HG1:=Lib.hid (HG.out.below (lo:=0) In.nil HB1.out))|(at_builtin;refine zat rfl (.tmp 24) (.tmp 27) _ rfl (w.heap.size) 9 i0 _ 1 16 Tryz.underlying67 hi0 hz0 hz1 hz2 rfl (by omega) _ _ _ [] rfl HG1.out [.string (ofL (Go.Lib.itoa n))] [strT (ofL (Go.Lib.itoa n))] [] rfl 1 rfl (fun u hu=>by simp at hu;subst hu;rfl) (RepV.lits [.string (ofL (Go.Lib.itoa n))]) List.nodup_nil (fun b h=>by simp at h) 0 In.nil In.nil (by simp) (by simp) (by unfold maxLen;omega) (by omega) (by omega) ?_;intro v2 w2 hgn));have HGN:=Lib.hid hgn;clear hgn;go_wp2;go_roundw
    case rel =>
     refine⟨k+1,by omega,by go_num,by rw[HTK.out,List.all_append,HA.out];simp[HBN.out],HB.out.trans (Below.trans (HB1.out.mono zr) HGN.out.below),?_⟩;rw[HTK.out,List.map_append];exact HGN.out.grow
    case measure=>simp[intOf];omega
   ·have hbn':bnd n=false:=Bool.eq_false_iff.2 hbn
    clear hbn;have HW:Hid (∀ W,Calls Tryz.prog 59 #[.int .i64 n,.int .i64 (-1000000000000),.int .i64 1000000000000] W fun e w'=>e=.returned (.bool false)∧W=w'):=fun W=>by
     have:=zap n (-1000000000000) 1000000000000 W;rw[show inB n (-1000000000000) 1000000000000=false from hbn'] at this;exact this
    have HE:=Lib.hid (HBAD.out hbn');clear hbn';go_wp2_with (go_at_call 59;with_reducible refine (HW.out _).mono ?_;rintro e w1 ⟨rfl,rfl⟩);go_ret;exact⟨by rw[HE.out];rfl,HB.out⟩
  ·obtain rfl:k=l.length:=by omega
   have hall:=HA.out;rw[List.take_length] at HG hall;obtain⟨av,cv,fv,ev,ov,iv⟩:=HG.out.toOwn (lo:=w.heap.size) (by omega) In.nil (by omega);subst ev;have hr:=ov.rd iv;have e:(Tr.sl 1 (l.map fun n=>strT (ofL (Go.Lib.itoa n))))=strsT (l.map fun n=>ofL (Go.Lib.itoa n)):=by unfold strsT;rw[List.map_map];rfl
   rw[e] at hr;obtain⟨a2,c2,e2,h3,h4,hcl2⟩:=Rd.strs hr;injection e2 with e3 e4 e5;subst e3 e5;obtain⟨b2,off2,ea2,hb2,hat2⟩:=hcl2 (by simpa using h2p);subst ea2;have HJ:Hid (∀ W,W=wr→Calls Tryz.prog 35 #[.slice (some ⟨b2,off2,none⟩) l.length cv,.string ⟨#[44]⟩] W fun e w'=>e=.returned (.string (ofL (zag l)))∧Below W.heap.size W w'):=fun W hW=>by
    subst hW;have hm:(l.map fun n=>ofL (Go.Lib.itoa n)).map (·.data.toList)=l.map Go.Lib.itoa:=by
     rw[List.map_map];exact List.map_congr_left fun n _=>bl_ofL _
    have hlen:(l.map fun n=>ofL (Go.Lib.itoa n)).length=l.length:=List.length_map _
    have hj:=Tryz.strings_Join b2 off2 cv (l.map fun n=>ofL (Go.Lib.itoa n)) ⟨#[44]⟩ W (fun j x hx=>by
      obtain⟨hj,e⟩:=List.getElem?_eq_some_iff.1 hx
      rw[hat2 j hj,e]) hb2 (by rw[hlen];omega) (by rw[hlen] at h3 ⊢;omega) (by
      rw[hm]
      have:=join_len (l.map Go.Lib.itoa) 44 21 (fun x hx=>by
       obtain⟨n,hn,rfl⟩:=List.mem_map.1 hx;have:=HKI.out n hn
       exact Go.Lib.itoa_length_le n this.1 this.2)
      rw[List.length_map] at this
      exact Nat.le_trans this (by omega))
    rw[hlen,hm] at hj;rw[listText_good (by omega) HNE.out hall];exact hj
   clear hat2 hcl2 hr h3 h4 hall e e4;go_wp2_with (go_at_call 35;with_reducible refine (HJ.out _ rfl).mono ?_;rintro e w1 ⟨rfl,hb1⟩);go_ret;exact⟨rfl,HB.out.trans (hb1.mono zr)⟩
def ReadP (o:Option (List Int)) (w:World) (e:Ending) (w':World):Prop:=match o with
 | some vs=>∃ a c,e=.returned (.tuple #[.slice a vs.length c,.bool true])∧Below w.heap.size w w'∧Rd w'.heap.size w' (intsT vs) (.slice a vs.length c)
 | none=>e=.returned (.tuple #[.slice none 0 0,.bool false])∧Below w.heap.size w w'
theorem rd_nilI (B:Nat) (w:World) (a:Option Addr) (c:Nat) (h:c≤maxLen):Rd B w (intsT []) (.slice a 0 c):=⟨[],za5.2 ⟨a,0,c,rfl,rfl,Nat.zero_le _,h,Or.inl ⟨rfl,rfl⟩⟩,fun b hb=>by simp at hb⟩
theorem eqS_dash (s:ByteArray):(s.toList == [45])=decide (bl s = [45]):=by
 rw[Bool.eq_iff_iff,beq_iff_eq,decide_eq_true_eq,ByteArray.toList_eq];exact Iff.rfl
theorem nums_take {ps:List (List UInt8)} (k:Nat) (vs:List Int) (h:k<ps.length) (hn:nums (ps.take k)=some vs):nums (ps.take (k+1))=match num ps[k] with|some v=>some (vs++[v])|none=>none:=by
 rw[List.take_succ_eq_append_getElem h];exact nums_snoc _ _ _ hn
theorem I64_num {l:List UInt8} {v:Int} (h:num l=some v):I64 v:=by
 have:=(num_some h).2
 constructor<;>omega
theorem splitN_size (c:UInt8):∀ (l:List UInt8) (k:Nat) (p:List UInt8),p ∈ zau c k l→p.length≤l.length:=by
 intro l
 induction l with
 | nil=>intro k p hp;cases k<;>· simp[zau] at hp;subst hp;simp
 | cons b l ih =>
  intro k p hp
  cases k with
  | zero=>simp[zau] at hp;subst hp;exact Nat.le_refl _
  | succ k =>
   rw[zau] at hp
   by_cases h:b=c
   ·rw[if_pos h] at hp
    rcases List.mem_cons.1 hp with rfl|hp
    ·simp
    ·have:=ih k p hp;simp<;>omega
   ·rw[if_neg h] at hp
    cases hs:zau c (k+1) l with
    | nil=>exact absurd hs (splitN_ne _ _ _)
    | cons q qs =>
     rw[hs] at hp
     rcases List.mem_cons.1 hp with rfl|hp
     ·have:=ih (k+1) q (by rw[hs];simp);simp<;>omega
     ·have:=ih (k+1) p (by rw[hs];simp[hp]);simp<;>omega
theorem words_size (c:UInt8) (s:ByteArray) (p:ByteArray) (h:p ∈ zbf c s):p.size≤s.size:=by
 unfold zbf at h;obtain⟨q,hq,rfl⟩:=List.mem_map.1 h;rw[← zbr c (bl s) _ (Nat.le_refl _)] at hq;have:=splitN_size c _ _ _ hq;rw[ofL_size,← bl_len];exact this
theorem words_sizeN (c:UInt8) (s:ByteArray) (p:ByteArray) (h:p ∈ zch c s):p.size≤s.size:=by
 unfold zch at h;obtain⟨q,hq,rfl⟩:=List.mem_map.1 h;have:=splitN_size c _ _ _ hq;rw[ofL_size,← bl_len];exact this
theorem nums_I64 {ps:List (List UInt8)} {l:List Int} (h:nums ps=some l):∀ n ∈ l,I64 n:=by
 induction ps generalizing l with
 | nil=>obtain rfl:l = []:=(Option.some.inj h).symm;intro n hn;cases hn
 | cons p ps ih =>
  obtain⟨v,vs,rfl,h1,h2⟩:=zbu h;intro n hn
  rcases List.mem_cons.1 hn with rfl|hn
  ·exact I64_num h1
  ·exact ih h2 n hn
theorem iReadList_any (s:ByteArray) (hs:s.size≤1048576) (w:World) (L:LibW w):Calls Tryz.prog 90 #[.string s] w (ReadP (readL (bl s)) w):=by
 by_cases h0:bl s = [45]
 ·have HE:Hid (readL (bl s)=some []):=by show _=_;unfold readL;rw[if_pos h0]
  have hq:(s.toList == [45])=true:=by rw[eqS_dash];exact decide_eq_true h0
  have hB:Hid (Below w.heap.size w (w.alloc (.cells #[] 2))):=(Below.refl _ _).alloc (Nat.le_refl _) _;clear h0;rw[HE.out];go_enter Tryz.func90,Tryz.ntmps90;go_wp2;go_ret2;exact⟨none,0,rfl,Below.refl _ _,rd_nilI _ _ _ _ (by unfold maxLen;omega)⟩
 have hq:(s.toList == [45])=false:=by rw[eqS_dash];exact decide_eq_false h0
 have H0:=Lib.hid h0;clear h0;have hps:(zch 44 s).length=(zau 44 64 (bl s)).length:=List.length_map _;have hpg:Hid (∀ k:Nat,((zch 44 s)[k]?).map bl=(zau 44 64 (bl s))[k]?):=fun k=>by
  simp only[zch,List.getElem?_map,Option.map_map];rw[show bl ∘ ofL=id from funext fun x=>bl_ofL x];simp
 obtain⟨i0,hi0,hz0,hz1,hz2⟩:=info_parts infoI;have HL:=Lib.hid L;have HSP:=Lib.hid (iSplitN_any s 44 hs w L);clear L;have hlw:True:=trivial;go_enter Tryz.func90,Tryz.ntmps90;go_wp2_with fail;refine HSP.out.mono ?_;rintro e w1 ⟨a1,c1,rfl,hb1,hr1,hl65⟩;clear HSP;have HB1:=Lib.hid hb1;have HR1:=Lib.hid hr1;have z1:=hb1.size;obtain⟨_,_,e1,_,_,hcl⟩:=Rd.strs hr1;injection e1 with e1 e2 e3;subst e1 e3;clear e2;have HCL:=Lib.hid hcl;clear hb1 hr1 hcl;have hPS:=Lib.hid hps;have HSZ:Hid (∀ p ∈ zch 44 s,p.size≤1048576):=fun p hp=>Nat.le_trans (words_sizeN _ _ _ hp) hs
 generalize hwd:zch 44 s=ws at *;have HWD:=Lib.hid hwd;generalize hpd:zau 44 64 (bl s)=ps at *;have HPD:=Lib.hid hpd;clear hwd hpd hps;go_wp2;go_loopw [4,14] (fun v i wr=>∃ (k:Nat) (vs:List Int),k≤ws.length∧i=.int .i64 k∧vs.length=k∧nums (ps.take k)=some vs∧Below w1.heap.size w1 wr∧Grow wr w1.heap.size 2 1 v vs.length (vs.map intT) []) (fun _ i wr=>ws.length-(intOf i).toNat)
 case atStart=>exact⟨0,[],Nat.zero_le _,rfl,rfl,rfl,Below.refl _ _,by simpa using Grow.nil⟩
 case round =>
  obtain⟨k,vs,hk,rfl,hvl,hns,hb,hgr⟩:=hrel;have HN:=Lib.hid hns;have HB:=Lib.hid hb;have HG:=Lib.hid hgr;have HVL:=Lib.hid hvl;have zr:=hb.size;have hvn:vs.length≤65:=by omega
  clear hb hgr hns hvl
  by_cases hlt:k<ws.length
  ·obtain⟨b,off,ea,hbb,hat⟩:=HCL.out (by omega)
   subst ea;have hc:=hat k hlt;rw[← bat HB.out b _ hbb] at hc;have yb:b<wr.heap.size:=by omega
   have hklp:k<ps.length:=by rw[← hPS.out];exact hlt
   have HPK:Hid (bl ws[k]=ps[k]):=by
    have:=hpg.out k;rw[List.getElem?_eq_getElem hlt,List.getElem?_eq_getElem hklp] at this;exact Option.some.inj this
   have HST:=Lib.hid (nums_take k vs hklp HN.out);have HMEM:=Lib.hid (List.getElem_mem hklp);have hsz:=HSZ.out _ (List.getElem_mem hlt);clear hat;generalize ps[k]=pk at *;clear hklp;generalize ws[k]=p at *;have HRD:Hid (∀ W,LibW W→Calls Tryz.prog 33 #[.string p] W fun e w'=>e=.returned (.tuple #[.int .i64 (numV pk),.bool (numB pk)])∧Below W.heap.size W w'):=fun W hW=>by
    rw[← HPK.out];exact readDecimal_any p (by omega) W hW
   cases hnk:num pk with
   | none =>
    have hnb:numB pk=false:=(numF _ hnk).2;have HE:Hid (readL (bl s)=none):=by
     show _=_
     unfold readL;rw[if_neg H0.out,HPD.out,nums_none pk HMEM.out hnk]
    clear hnk;rw[hnb] at HRD;go_wp2_with (go_at_call 33;with_reducible refine (HRD.out _ (HL.out.mono (HB1.out.trans (HB.out.mono z1)))).mono ?_;rintro e w2 ⟨rfl,hb2⟩);go_ret2;rw[HE.out];exact⟨rfl,(HB1.out.trans (HB.out.mono z1)).trans (hb2.mono (Nat.le_trans z1 zr))⟩
   | some n =>
    have hnb:numB pk=true:=(numT _ n hnk).2;have hnv:numV pk=n:=(numT _ n hnk).1;have HNI:=Lib.hid (I64_num hnk);rw[hnb,hnv] at HRD;have HSN:Hid (nums (ps.take (k+1))=some (vs++[n])):=by show _=_;rw[HST.out,hnk]
    clear hnk hnb hnv HST;go_wp2_with (first|(go_at_call 33;with_reducible refine (HRD.out _ (HL.out.mono (HB1.out.trans (HB.out.mono z1)))).mono ?_;rintro e w2 ⟨rfl,hb2⟩;have HB2:=Lib.hid hb2;clear hb2;have z2:=HB2.out.size;have HG2:=Lib.hid (HG.out.below (lo:=0) In.nil HB2.out))|(at_builtin;refine zat rfl (.tmp 25) (.tmp 27) _ rfl (w1.heap.size) 2 i0 _ 1 8 Tryz.underlying65 hi0 hz0 hz1 hz2 rfl (by omega) _ _ _ [] rfl HG2.out [.int .i64 n] [intT n] [] rfl 1 rfl (fun u hu=>by simp at hu;subst hu;rfl) (RepV.lits [.int .i64 n]) List.nodup_nil (fun b h=>by simp at h) 0 In.nil In.nil (by simp) (by simp) (by unfold maxLen;omega) (by omega) (by omega) ?_;intro v2 w3 hgn));have HGN:=Lib.hid hgn;clear hgn;go_wp2;go_roundw
    case rel =>
     refine⟨k+1,vs++[n],by omega,by go_num,by rw[List.length_append,HVL.out];rfl,HSN.out,HB.out.trans (Below.trans (HB2.out.mono zr) HGN.out.below),?_⟩;rw[List.length_append,List.map_append];exact HGN.out.grow
    case measure=>simp[intOf];omega
  ·obtain rfl:k=ws.length:=by omega
   have hn:=HN.out;have hvl:=HVL.out;rw[hPS.out,List.take_length] at hn;obtain⟨av,cv,fv,ev,ov,iv⟩:=HG.out.toOwn (lo:=w1.heap.size) (by omega) In.nil (by omega);subst ev;have HRV:=Lib.hid (ov.rd iv);have BW:=Lib.hid (HB1.out.trans (HB.out.mono z1));have HI:Hid (∀ n ∈ vs,I64 n):=nums_I64 hn;have HTX:Hid (∀ W,W=wr→Calls Tryz.prog 58 #[.slice av vs.length cv] W fun e w'=>e=.returned (.string (ofL (zag vs)))∧Below W.heap.size W w'):=fun W hW=>by
    subst hW;exact listText_any vs _ _ W (HL.out.mono BW.out) HRV.out (Nat.le_refl _) (by omega) HI.out
   have HNS:=Lib.hid hn;clear hn hvl HVL HG
   by_cases ht:zag vs=bl s
   ·have HE:Hid (readL (bl s)=some vs):=by
     show _=_
     unfold readL;rw[if_neg H0.out,HPD.out,HNS.out];exact if_pos ht
    have hte:ofL (zag vs)=s:=ofL_eq.2 ht;rw[hte] at HTX;have hqq:(s.toList == s.toList)=true:=beq_iff_eq.2 rfl;have hqn:(s.toList != s.toList)=false:=by unfold bne;rw[hqq];rfl
    clear ht hte;go_wp2_with (go_at_call 58;with_reducible refine (HTX.out _ rfl).mono ?_;rintro e w2 ⟨rfl,hb2⟩);go_ret2;rw[HE.out];exact⟨av,cv,rfl,BW.out.trans (hb2.mono BW.out.size),(HRV.out.below hb2).mono hb2.size⟩
   ·have HE:Hid (readL (bl s)=none):=by
     show _=_
     unfold readL;rw[if_neg H0.out,HPD.out,HNS.out];exact if_neg ht
    obtain⟨tx,htx⟩:∃ tx,tx=ofL (zag vs):=⟨_,rfl⟩
    rw[← htx] at HTX;have hne:eqS tx s=false:=by
     rw[Bool.eq_false_iff];intro e;exact ht (by rw[← bl_ofL (zag vs),← htx,zcm.1 e])
    have hqq:(tx.toList == s.toList)=false:=hne;have hqn:(tx.toList != s.toList)=true:=by unfold bne;rw[hqq];rfl
    clear ht hne htx;go_wp2_with (go_at_call 58;with_reducible refine (HTX.out _ rfl).mono ?_;rintro e w2 ⟨rfl,hb2⟩);go_ret2;rw[HE.out];exact⟨rfl,BW.out.trans (hb2.mono BW.out.size)⟩
end Go.Proofs.YtpodllefipleiaaGreatDoor
