/- Contracts: a line without its check value, for the reference; cuts at the last place. Conditions: bounded sizes. -/
import Derived.Test.YtmkkiglcpedkiaaGreatDoorSr3
import Derived.Test.YtmkkiglcpedkiaaGreatDoorRd3
import Derived.Test.YtmkkiglcpedkiaaGreatDoorRegW
set_option linter.unusedVariables false
set_option linter.unusedSimpArgs false
namespace Go.Proofs.YtmkkiglcpedkiaaGreatDoor
open Go.RowKit
def lastCut (c:UInt8):List UInt8→Option (List UInt8 × List UInt8)
 | []=>none
 | b::l=>match lastCut c l with
  | some (x,y)=>some (b::x,y)
  | none=>if b=c then some ([],l) else none
theorem lastCut_none {c:UInt8} {l:List UInt8} (h:c ∉ l):lastCut c l=none:=by
 induction l with
 | nil=>rfl
 | cons b l ih =>
  rw[lastCut,ih (fun e=>h (by simp[e])),if_neg (fun e=>h (by simp[e]))]
theorem lastCut_of {c:UInt8} {x y:List UInt8} (h:c ∉ y):lastCut c (x++c::y)=some (x,y):=by
 induction x with
 | nil=>rw[List.nil_append,lastCut,lastCut_none h,if_pos rfl]
 | cons b x ih=>rw[List.cons_append,lastCut,ih]
theorem lastCut_some {c:UInt8} {l x y:List UInt8} (h:lastCut c l=some (x,y)):l=x++c::y∧c ∉ y:=by
 induction l generalizing x y with
 | nil=>cases h
 | cons b l ih =>
  rw[lastCut] at h
  cases hl:lastCut c l with
  | some p =>
   obtain⟨u,v⟩:=p;rw[hl] at h;obtain⟨rfl,rfl⟩:=Prod.mk.inj (Option.some.inj h);obtain⟨e,hn⟩:=ih hl;exact⟨by rw[e];rfl,hn⟩
  | none =>
   rw[hl] at h;have h':(if b=c then some (([]:List UInt8),l) else none)=some (x,y):=h
   by_cases hb:b=c
   ·rw[if_pos hb] at h'
    obtain⟨rfl,rfl⟩:=Prod.mk.inj (Option.some.inj h');refine⟨by rw[hb];rfl,fun hm=>?_⟩;have:∀ m:List UInt8,c ∈ m→lastCut c m≠none:=by
     intro m
     induction m with
     | nil=>intro h;cases h
     | cons d m im =>
      intro hd hn;rw[lastCut] at hn
      cases hm2:lastCut c m with
      | some p=>rw[hm2] at hn;obtain⟨_,_⟩:=p;cases hn
      | none =>
       rw[hm2] at hn
       rcases List.mem_cons.1 hd with e|e
       ·rw[e] at hn;simp at hn
       ·exact im e hm2
    exact this _ hm hl
   ·rw[if_neg hb] at h';cases h'
theorem join_splitN (c:UInt8) (k:Nat) (l:List UInt8):Go.Lib.join (splitN c k l) [c]=l:=by
 induction l generalizing k with
 | nil=>cases k<;>simp[splitN,Go.Lib.join_one]
 | cons b l ih =>
  cases k with
  | zero=>rw[splitN,Go.Lib.join_one]
  | succ k =>
   rw[splitN]
   by_cases h:b=c
   ·subst h;rw[if_pos rfl,join_nilcons _ _ (splitN_ne _ _ _),ih]
   ·rw[if_neg h,join_onto _ _ _ (splitN_ne _ _ _),ih]
theorem splitN_app (c:UInt8) (x y:List UInt8):∀ (ws:List (List UInt8)) (k:Nat),splitC c x=ws++[[]]→ws.length=k→splitN c k (x++y)=ws++[y]:=by
 induction x with
 | nil =>
  intro ws k h hk;rw[splitC] at h;have:ws = []:=by
   cases ws with
   | nil=>rfl
   | cons w ws=>simp at h
  subst this;obtain rfl:k=0:=by simpa using hk.symm
  simp[splitN]
 | cons b x ih =>
  intro ws k h hk;rw[splitC] at h
  by_cases hb:b=c
  ·rw[if_pos hb] at h
   cases ws with
   | nil =>
    simp at h;exact absurd h (splitC_ne _ _)
   | cons w ws =>
    rw[List.cons_append] at h;injection h with h1 h2;obtain⟨j,rfl⟩:∃ j,k=j+1:=⟨k-1,by simp at hk;omega⟩
    rw[List.cons_append,splitN,if_pos hb,ih ws j h2 (by simpa using hk),← h1]
    rfl
  ·rw[if_neg hb] at h
   cases hs:splitC c x with
   | nil=>exact absurd hs (splitC_ne _ _)
   | cons p ps =>
    rw[hs] at h
    cases ws with
    | nil=>rw[onto,List.nil_append] at h;injection h with h1 _;cases h1
    | cons w ws =>
     rw[onto,List.cons_append] at h;injection h with h1 h2;obtain⟨j,rfl⟩:∃ j,k=j+1:=⟨k-1,by simp at hk;omega⟩
     rw[List.cons_append,splitN,if_neg hb,ih (p::ws) (j+1) (by rw[hs,h2];rfl) (by simpa using hk),← h1]
     rfl
def zChg:DChange:=⟨0,⟨#[]⟩,⟨#[]⟩,⟨#[]⟩⟩
def chgOf (d:Int) (p1 t:List UInt8) (n:Nat):DChange:=⟨d,ofL p1,ofL (t.take n),ofL (t.drop n)⟩
def chgR (line:List UInt8):DChange × Int:=match lastCut 32 line with
 | none=>(zChg,10)
 | some (body,sum)=>if sum=Go.Lib.itoa (crcL body 65535) then (match splitN 32 4 body with
   | [p0,p1,p2,p3,t]=>match num p0,num p2,num p3 with
    | some d,some n,some m=>if 0≤n∧n+m=(t.length:Int)∧n≤(t.length:Int)∧changeB (chgOf d p1 t n.toNat)=true then (chgOf d p1 t n.toNat,0) else (zChg,9)
    | _,_,_=>(zChg,9)
   | _=>(zChg,9)) else (zChg,10)
theorem itoa_no32 (n:Int):(32:UInt8) ∉ Go.Lib.itoa n:=fun h=>by
 rcases itoa_mem h with e|e
 ·exact absurd e (by decide)
 ·exact absurd e (by decide)
theorem line_iff {line body p0 p1 p2 p3 t:List UInt8} {d n:Int} (hc:lastCut 32 line=some (body,Go.Lib.itoa (crcL body 65535))) (hp:splitN 32 4 body = [p0,p1,p2,p3,t]) (h0:num p0=some d) (h2:num p2=some n) (hn0:0≤n) (hn1:n≤(t.length:Int)) (hl:t.length≤1048576) :
  (lineL (chgOf d p1 t n.toNat)=line↔num p3=some ((t.length:Int)-n)):=by
 have hj:=join_splitN 32 4 body;rw[hp] at hj;have e0:=(num_some h0).1;have e2:=(num_some h2).1;have hs1:((chgOf d p1 t n.toNat).old_.size:Int)=n:=by
  show (((t.take n.toNat).length:Nat):Int)=n
  rw[List.length_take];omega
 have hs2:((chgOf d p1 t n.toNat).new_.size:Int)=(t.length:Int)-n:=by
  show (((t.drop n.toNat).length:Nat):Int)=_
  rw[List.length_drop];omega
 have hb:bodyL (chgOf d p1 t n.toNat)=Go.Lib.join [p0,p1,p2,Go.Lib.itoa ((t.length:Int)-n),t] [32]:=by
  unfold bodyL;rw[hs1,hs2,← e2];have:bl (chgOf d p1 t n.toNat).old_++bl (chgOf d p1 t n.toNat).new_=t:=by
   show bl (ofL (t.take n.toNat))++bl (ofL (t.drop n.toNat))=t
   rw[bl_ofL,bl_ofL,List.take_append_drop]
  rw[this,show (chgOf d p1 t n.toNat).day=d from rfl,← e0,show bl (chgOf d p1 t n.toNat).key=p1 from bl_ofL p1]
 have hline:=(lastCut_some hc).1
 constructor
 ·intro e
  have h1:lastCut 32 (lineL (chgOf d p1 t n.toNat))=some (bodyL (chgOf d p1 t n.toNat),Go.Lib.itoa (crcL (bodyL (chgOf d p1 t n.toNat)) 65535)):=lastCut_of (itoa_no32 _);rw[e,hc] at h1;have hbe:bodyL (chgOf d p1 t n.toNat)=body:=(Prod.mk.inj (Option.some.inj h1)).1.symm;rw[hb,← hj] at hbe;simp only[Go.Lib.join_cons,Go.Lib.joinTail,List.map_cons,List.map_nil,List.flatten_cons,List.flatten_nil,List.append_nil,List.cons_append,List.nil_append] at hbe;have h3:=List.append_cancel_left hbe;injection h3 with _ h3;have h4:=List.append_cancel_left h3;injection h4 with _ h4;have h5:=List.append_cancel_left h4;injection h5 with _ h5;have h6:Go.Lib.itoa ((t.length:Int)-n)=p3:=by simpa using h5
  rw[← h6];exact num_itoa _ (by omega)
 ·intro e
  have e3:=(num_some e).1;rw[← e3] at hb;have hbe:bodyL (chgOf d p1 t n.toNat)=body:=by rw[hb,hj]
  unfold lineL;rw[hbe,hline]
def headR (l:List UInt8):Option Int:=match splitC 32 l with
 | [r,w]=>if r = [114,101,103,105,115,116,101,114] then (match num w with
   | some n=>if 0≤n∧n≤48 then some n else none
   | none=>none) else none
 | _=>none
theorem headR_iff (l:List UInt8) (n:Int) (h0:0≤n) (h1:n≤48):headL n=l↔headR l=some n:=by
 constructor
 ·rintro rfl
  have hs:splitC 32 (headL n) = [[114,101,103,105,115,116,101,114],Go.Lib.itoa n]:=by
   unfold headL REG;rw[show ([114,101,103,105,115,116,101,114,32]:List UInt8)++Go.Lib.itoa n = [114,101,103,105,115,116,101,114]++32::Go.Lib.itoa n from rfl,splitC_app _ _ _ (by decide),splitC_plain _ _ (itoa_no32 n)]
  unfold headR;rw[hs];simp only[if_true];rw[num_itoa n (by omega)];simp only;rw[if_pos ⟨h0,h1⟩]
 ·intro h
  unfold headR at h
  split at h
  ·rename_i r w hs
   split at h
   ·rename_i hr
    cases hn:num w with
    | none=>rw[hn] at h;cases h
    | some m =>
     rw[hn] at h;have h':(if 0≤m∧m≤48 then some m else none)=some n:=h
     split at h'
     ·obtain rfl:=Option.some.inj h'
      have hj:=join_splitC 32 l;rw[hs,hr,(num_some hn).1] at hj;rw[← hj];simp[headL,REG,Go.Lib.join_cons,Go.Lib.joinTail]
     ·cases h'
   ·cases h
  ·cases h
theorem headR_range {l:List UInt8} {n:Int} (h:headR l=some n):0≤n∧n≤48:=by
 unfold headR at h
 split at h
 ·rename_i r w hs
  split at h
  ·cases hn:num w with
   | none=>rw[hn] at h;cases h
   | some m =>
    rw[hn] at h;have h':(if 0≤m∧m≤48 then some m else none)=some n:=h
    split at h'
    ·obtain rfl:=Option.some.inj h'
     assumption
    ·cases h'
  ·cases h
 ·cases h
def linesT (t:List UInt8):List (List UInt8) × Int:=match headR ((splitC 10 t).headD []) with
 | none=>([],9)
 | some m=>if ((splitC 10 t).length:Int)-1<m then ([],11) else if m<((splitC 10 t).length:Int)-1 then ([],9) else ((splitC 10 t).tail,0)
def linesR (s:List UInt8):List (List UInt8) × Int:=if s.getLast? = some 10 then linesT s.dropLast else ([],11)
theorem splitC_end (c:UInt8) (t:List UInt8):splitC c (t++[c])=splitC c t++[[]]:=by
 induction t with
 | nil=>simp[splitC]
 | cons b t ih =>
  rw[List.cons_append,splitC,splitC]
  by_cases h:b=c
  ·rw[if_pos h,if_pos h,ih];rfl
  ·rw[if_neg h,if_neg h,ih]
   cases hs:splitC c t with
   | nil=>exact absurd hs (splitC_ne _ _)
   | cons p ps=>rfl
theorem splitC_last (c:UInt8) (l:List UInt8) (ps:List (List UInt8)) (h:splitC c l=ps++[[]]) (hp:ps≠[]):∃ t,l=t++[c]:=by
 have hj:=join_splitC c l;rw[h] at hj;have:∀ (qs:List (List UInt8)),qs≠[]→∃ t,Go.Lib.join (qs++[[]]) [c]=t++[c]:=by
  intro qs
  induction qs with
  | nil=>intro h;exact absurd rfl h
  | cons q qs ih =>
   intro _
   cases qs with
   | nil=>exact⟨q,by simp[Go.Lib.join_cons,Go.Lib.joinTail]⟩
   | cons r rs =>
    obtain⟨t,ht⟩:=ih (by simp);refine⟨q++c::t,?_⟩;simp only[List.cons_append,Go.Lib.join_cons,Go.Lib.joinTail,List.map_cons,List.flatten_cons,List.append_assoc,List.nil_append] at ht ⊢;rw[ht]
 obtain⟨t,ht⟩:=this ps hp;exact⟨t,by rw[← hj,ht]⟩
set_option maxHeartbeats 8000000
set_option maxRecDepth 100000
def LinesP (o:List (List UInt8) × Int) (w:World) (e:Ending) (w':World):Prop :=
 ∃ a c,e=.returned (.tuple #[.slice a o.1.length c,.int .i64 o.2])∧Below w.heap.size w w'∧Rd w'.heap.size w' (strsT (o.1.map ofL)) (.slice a o.1.length c)
theorem rd_strsAt (W:World) (b off:Nat) (l:List ByteArray) (c:Nat) (hc:l.length≤c) (hm:c≤maxLen) (h:∀ (i:Nat) (hi:i<l.length),W.cell? ⟨b,off+i,none⟩=some (.string l[i])) (B:Nat) (hB:b<B) :
  Rd B W (strsT l) (.slice (some ⟨b,off,none⟩) l.length c):=by
 by_cases h0:l = []
 ·subst h0
  exact⟨[],Rep_sl.2 ⟨_,0,c,rfl,by simp,Nat.zero_le _,hm,Or.inl ⟨rfl,rfl⟩⟩,fun b hb=>by simp at hb⟩
 ·refine⟨[b],Rep_sl.2 ⟨_,l.length,c,rfl,by simp,hc,hm,Or.inr ⟨b,off,[],by simpa using h0,rfl,rfl,?_⟩⟩,fun b hb=>by simp at hb;omega⟩
  have e:l.map strT=(l.map Value.string).map Tr.lit:=by rw[List.map_map];rfl
  rw[e];refine Reps.lits _ _ _ (fun i hi=>?_);have hi':i<l.length:=by simpa using hi
  simp only[List.getElem_map];exact h i hi'
theorem suffix_last (l:List UInt8):Go.Lib.hasSuffix l [10]=decide (l.getLast? = some 10):=by
 unfold Go.Lib.hasSuffix;rw[Bool.eq_iff_iff,decide_eq_true_eq,List.isSuffixOf_iff_suffix]
 constructor
 ·rintro⟨t,rfl⟩;simp
 ·intro h
  obtain⟨t,e⟩:=List.getLast?_eq_some_iff.1 h;exact⟨t,e.symm⟩
theorem trim_last {l:List UInt8} (h:l.getLast? = some 10):Go.Lib.trimSuffix l [10]=l.dropLast:=by
 unfold Go.Lib.trimSuffix;rw[suffix_last,decide_eq_true h,if_pos rfl,List.dropLast_eq_take]
 rfl
theorem headClosure_any (n:Int) (h1:0≤n) (h2:n≤48) (wb b1 off nl c1:Nat) (hnl:0<nl) (hnb:nl≤1099511627776) (t:List UInt8) (w:World) (L:LibW w) (c0:w.cell? ⟨wb,0,none⟩=some (.slice (some ⟨b1,off,none⟩) nl c1)) (c4:w.cell? ⟨b1,off,none⟩=some (.string (ofL t))) :
  Calls Tryz.prog 40 #[.int .i64 n,.pointer (some ⟨wb,0,none⟩)] w fun e w'=>e=.returned (.bool (decide (headR t=some n)))∧Below w.heap.size w w':=by
 have HN:Hid (∀ W:World,LibW W→Calls Tryz.prog 16 #[.int .i64 n] W fun e w'=>e=.returned (.string (ofL (headL n)))∧Below W.heap.size W w'):=fun W hW=>registerHead_any n (by constructor<;>omega) W hW
 have HE:Hid (eqS (ofL (headL n)) (ofL t)=decide (headR t=some n)):=by
  show _=_
  rw[Bool.eq_iff_iff,eqS_iff,decide_eq_true_eq,← headR_iff t n h1 h2];exact⟨fun h=>ofL_inj h,fun h=>by rw[h]⟩
 have l0:=cell_lt c0;have l4:=cell_lt c4
 dsimp only at l0 l4
 have HLO:Hid (∀ X,LibW (over w.heap.size w X)):=fun X=>L.mono (over_below w.heap.size w X)
 generalize ofL (headL n)=tn at *;generalize ofL t=tt at *;have o0:=overC (w0:=w) l0;have o4:=overC (w0:=w) l4;have hi0:(0:Int)<(nl:Int):=by omega
 clear h1 h2 L;go_enter Tryz.func40,Tryz.ntmps40;go_upto_region 1 with (fail);refine wp_region_over w.heap.size w (Below.refl _ _) (by kernel_rfl) (by kernel_rfl) ?_
 repeat (go_big_quiet_step (first|(go_at_call 16;with_reducible exact over_left (Nat.le_refl _) (HN.out _ (HLO.out _)))))
 refine wpQuiet_nil ?_;rintro _ ⟨X,rfl⟩;have BE:=Lib.hid (over_below w.heap.size w X);clear o0 o4;generalize over w.heap.size w X=w9 at *;go_wp2;go_ret;exact⟨by rw[← HE.out];rfl,BE.out⟩
theorem leastHead_any (wb b1 off nl c1:Nat) (hnl:0<nl) (hnb:nl≤1099511627776) (t:List UInt8) (w:World) (L:LibW w) (c0:w.cell? ⟨wb,0,none⟩=some (.slice (some ⟨b1,off,none⟩) nl c1)) (c4:w.cell? ⟨b1,off,none⟩=some (.string (ofL t))) :
  Calls Tryz.prog 39 #[.int .i64 0,.int .i64 48,.func (.func 40) #[] #[.pointer (some ⟨wb,0,none⟩)]] w fun e w'=>e=.returned (.tuple #[.int .i64 ((headR t).getD 0),.bool (headR t).isSome])∧Below w.heap.size w w':=by
 have l0:=cell_lt c0;have l4:=cell_lt c4
 dsimp only at l0 l4
 have hcf:∀ (args:Array Value) (W:World),(callFunc 40 args).run Tryz.prog W=.ok (.enter 40 args) W:=fun _ _=>by kernel_rfl
 have HC:Hid (∀ (n:Int) (W:World),0≤n→n≤48→Below w.heap.size w W→Calls Tryz.prog 40 #[.int .i64 n,.pointer (some ⟨wb,0,none⟩)] W fun e w'=>e=.returned (.bool (decide (headR t=some n)))∧Below W.heap.size W w'):=fun n W h1 h2 hW =>
  headClosure_any n h1 h2 wb b1 off nl c1 hnl hnb t W (L.mono hW) ((bat hW _ _ l0).trans c0) ((bat hW _ _ l4).trans c4)
 have HR:Hid (∀ n,headR t=some n→0≤n∧n≤48):=fun n h=>headR_range h
 generalize headR t=o at *;clear c0 c4 l0 l4 L hnl hnb;go_enter Tryz.func39,Tryz.ntmps39;go_wp2;go_loopw [8] (fun i wr=>∃ (k:Nat),k≤49∧i=.int .i64 k∧(∀ n,o=some n→(k:Int)≤n)∧Below w.heap.size w wr) (fun i wr=>49-(intOf i).toNat)
 case atStart=>exact⟨0,by omega,rfl,fun n h=>(HR.out n h).1,Below.refl _ _⟩
 case round =>
  obtain⟨k,hk,rfl,hno,hb⟩:=hrel;have HN:=Lib.hid hno;have HB:=Lib.hid hb;clear hno hb
  by_cases hlt:k≤48
  ·have hki:(k:Int)≤48:=by omega
   have hkj:(0:Int)≤k:=by omega
   have HCk:=Lib.hid (fun W h=>HC.out (k:Int) W hkj hki h);go_wp2_with fail;refine (HCk.out _ HB.out).mono ?_;rintro e w1 ⟨rfl,hb1⟩;have HB1:=Lib.hid (HB.out.trans (hb1.mono HB.out.size));clear hb1
   by_cases hp:o=some (k:Int)
   ·have hd:decide (o=some (k:Int))=true:=decide_eq_true hp
    rw[hd];have HP:=Lib.hid hp;clear hp hd;go_wp2;go_ret2;exact⟨by rw[HP.out];rfl,HB1.out⟩
   ·have hd:decide (o=some (k:Int))=false:=decide_eq_false hp
    rw[hd];have HP:=Lib.hid hp;clear hp hd;go_wp2;go_roundw
    case rel=>exact⟨k+1,by omega,by go_num,fun n h=>by
     have h1:=HN.out n h;have:n≠(k:Int):=fun e=>HP.out (by rw[h,e])
     omega,HB1.out⟩
    case measure=>simp[intOf];omega
  ·obtain rfl:k=49:=by omega
   have hc0:o=none:=by
    cases ho:o with
    | none=>rfl
    | some n=>have h1:=HN.out n ho;have h2:=HR.out n ho;omega
   subst hc0;go_wp2;go_ret2;exact⟨rfl,HB.out⟩
theorem registerLines_any (s:ByteArray) (hs:s.size≤1048576) (w:World) (L:LibW w):Calls Tryz.prog 18 #[.string s] w (LinesP (linesR (bl s)) w):=by
 have hcs:Hid (∀ W,Calls Tryz.prog 37 #[.string s,.string ⟨#[10]⟩] W fun e w'=>e=.returned (.tuple #[.string ⟨(Go.Lib.trimSuffix (bl s) [10]).toArray⟩,.bool (decide ((bl s).getLast? = some 10))])∧W=w'):=fun W=>(Tryz.strings_CutSuffix s ⟨#[10]⟩ W (by omega)).mono fun e w' ⟨he,hw⟩=>⟨by rw[he,← suffix_last];rfl,hw.symm⟩
 by_cases hsf:(bl s).getLast? = some 10
 case neg =>
  rw[decide_eq_false hsf] at hcs;have HE:Hid (linesR (bl s)=([],11)):=by show _=_;unfold linesR;rw[if_neg hsf]
  clear hsf L;rw[HE.out];go_enter Tryz.func18,Tryz.ntmps18;go_wp2_with (go_at_call 37;refine (hcs.out _).mono ?_;rintro e w1 ⟨rfl,rfl⟩);go_ret2;exact⟨none,0,rfl,Below.refl _ _,⟨[],Rep_sl.2 ⟨none,0,0,rfl,by simp,Nat.zero_le _,Nat.zero_le _,Or.inl ⟨rfl,rfl⟩⟩,fun b hb=>by simp at hb⟩⟩
 rw[decide_eq_true hsf,trim_last hsf] at hcs;have HE:Hid (linesR (bl s)=linesT (bl s).dropLast):=by show _=_;unfold linesR;rw[if_pos hsf]
 have hts:(ofL (bl s).dropLast).size≤1048576:=by
  show (bl s).dropLast.length≤_
  rw[List.length_dropLast,bl_len];omega
 rw[HE.out];clear hsf HE;generalize (bl s).dropLast=t at *;have hcs2:Hid (∀ W,Calls Tryz.prog 37 #[.string s,.string ⟨#[10]⟩] W fun e w'=>e=.returned (.tuple #[.string (ofL t),.bool true])∧W=w'):=hcs;have HSP:Hid (∀ W,LibW W→Calls Tryz.prog 38 #[.string (ofL t),.string ⟨#[10]⟩] W fun e w'=>∃ a cc,e=.returned (.slice a ((splitC 10 t).map ofL).length cc)∧Below W.heap.size W w'∧Rd w'.heap.size w' (strsT ((splitC 10 t).map ofL)) (.slice a ((splitC 10 t).map ofL).length cc)):=fun W hW=>by
  have:=iSplit_any (ofL t) 10 hts W hW;rw[wordsB,bl_ofL] at this;exact this
 have hlen:(splitC 10 t).length≤1048577:=by
  rw[splitC_len];have:=List.count_le_length (a:=(10:UInt8)) (l:=t);have h2:t.length≤1048576:=hts;omega
 obtain⟨l0,ls,hl⟩:∃ l0 ls,splitC 10 t=l0::ls:=by
  cases h:splitC 10 t with
  | nil=>exact absurd h (splitC_ne _ _)
  | cons a b=>exact⟨a,b,rfl⟩
 have HLT:Hid (linesT t=match headR l0 with|none=>([],9)|some m=>if (ls.length:Int)<m then ([],11) else if m<(ls.length:Int) then ([],9) else (ls,0)):=by
  show _=_
  unfold linesT;rw[hl];simp only[List.headD_cons,List.length_cons,List.tail_cons];have e:((ls.length+1:Nat):Int)-1=(ls.length:Int):=by omega
  simp only[e]
  all_goals (cases headR l0<;>rfl)
 rw[hl] at HSP hlen;simp only[List.map_cons,List.length_cons,List.length_map] at HSP hlen;clear hl hts hcs hs;have HL:=Lib.hid L;clear L;have hnl:(ls.length:Int)≤1048576:=by omega
 go_enter Tryz.func18,Tryz.ntmps18;go_wp2_with (go_at_call 37;refine (hcs2.out _).mono ?_;rintro e w1 ⟨rfl,rfl⟩);refine (HSP.out _ HL.out).mono ?_;rintro e w2 ⟨a1,c1,rfl,hb2,hr2⟩;obtain⟨_,_,e1,hlc,hcm,hcl⟩:=Rd.strs hr2;injection e1 with e1 e2 e3;subst e1 e3;obtain⟨b1,off,ea,hbb,hat⟩:=hcl (by simp);subst ea;have HB2:=Lib.hid hb2;have z2:=hb2.size;have HAT:=Lib.hid hat;simp only[List.length_cons,List.length_map] at hlc;clear hb2 hr2 hcl hat e2;go_upto_region 5 with (fail);obtain⟨W3,hW3,b3,z3,k3⟩:=boxes1 w2 #[.slice (some ⟨b1,off,none⟩) (ls.length+1) c1] 46;rw[hW3];clear hW3;have HB3:=Lib.hid (HB2.out.trans (b3.mono z2));have wx:=bkC (v:=.slice (some ⟨b1,off,none⟩) (ls.length+1) c1) k3 0 rfl;have HW3:Hid (∀ W,Below W3.heap.size W3 W→W.cell? ⟨w2.heap.size,0,none⟩=some (.slice (some ⟨b1,off,none⟩) (ls.length+1) c1)):=fun W hW=>bkC (bkB k3 hW (by omega)) 0 rfl
 have HC3:Hid (∀ W,Below W3.heap.size W3 W→∀ (i:Nat) (hi:i<(ofL l0::ls.map ofL).length),W.cell? ⟨b1,off+i,none⟩=some (.string ((ofL l0::ls.map ofL)[i]))):=fun W hW i hi=>(bat hW b1 _ (by omega)).trans ((bat b3 b1 _ hbb).trans (HAT.out i hi))
 clear b3 k3 HAT;go_wp2_with fail;refine (leastHead_any w2.heap.size b1 off (ls.length+1) c1 (by omega) (by omega) l0 W3 (HL.out.mono HB3.out) wx (by simpa using HC3.out W3 (Below.refl _ _) 0 (by simp))).mono ?_;rintro e w4 ⟨rfl,hb4⟩;have wy:=HW3.out _ hb4;have HB4:=Lib.hid (HB3.out.trans (hb4.mono HB3.out.size));have HC4:Hid (∀ (i:Nat) (hi:i<ls.length),w4.cell? ⟨b1,off+1+i,none⟩=some (.string ((ls.map ofL)[i]'(by simpa using hi)))):=fun i hi=>by
  have:=HC3.out w4 hb4 (i+1) (by simp<;>omega);rw[show off+1+i=off+(i+1) by omega,this]
  rfl
 have hz4:=hb4.size;clear hb4 wx HC3 HW3
 cases hh:headR l0 with
 | none =>
  have HE:Hid (linesT t=([],9)):=by show _=_;rw[HLT.out,hh]
  clear hh HLT;go_wp2;go_ret2;rw[HE.out];exact⟨none,0,rfl,HB4.out,⟨[],Rep_sl.2 ⟨none,0,0,rfl,by simp,Nat.zero_le _,Nat.zero_le _,Or.inl ⟨rfl,rfl⟩⟩,fun b hb=>by simp at hb⟩⟩
 | some m =>
  have hm:=headR_range hh;have HE:Hid (linesT t=if (ls.length:Int)<m then ([],11) else if m<(ls.length:Int) then ([],9) else (ls,0)):=by show _=_;rw[HLT.out,hh]
  clear hh HLT;have hm0:=hm.1;have hm1:=hm.2;clear hm
  by_cases h1:(ls.length:Int)<m
  ·rw[if_pos h1] at HE
   go_wp2;go_ret2;rw[HE.out];exact⟨none,0,rfl,HB4.out,⟨[],Rep_sl.2 ⟨none,0,0,rfl,by simp,Nat.zero_le _,Nat.zero_le _,Or.inl ⟨rfl,rfl⟩⟩,fun b hb=>by simp at hb⟩⟩
  ·by_cases h2:m<(ls.length:Int)
   ·rw[if_neg h1,if_pos h2] at HE
    go_wp2;go_ret2;rw[HE.out];exact⟨none,0,rfl,HB4.out,⟨[],Rep_sl.2 ⟨none,0,0,rfl,by simp,Nat.zero_le _,Nat.zero_le _,Or.inl ⟨rfl,rfl⟩⟩,fun b hb=>by simp at hb⟩⟩
   ·rw[if_neg h1,if_neg h2] at HE
    go_wp2
    ·go_ret2
     rw[HE.out];have hz:ls.length=0:=by omega
     obtain rfl:ls = []:=List.length_eq_zero_iff.1 hz;exact⟨some ⟨b1,off,none⟩,0,rfl,HB4.out,by simpa using rd_strsAt w4 b1 off [] 0 (by simp) (by omega) (fun i hi=>by simp at hi) w4.heap.size (by omega)⟩
    ·go_ret2
     rw[HE.out];refine⟨some ⟨b1,off+1,none⟩,c1-1,rfl,HB4.out,?_⟩;have:=rd_strsAt w4 b1 (off+1) (ls.map ofL) (c1-1) (by simp<;>omega) (by omega) (fun i hi=>HC4.out i (by simpa using hi)) w4.heap.size (by omega)
     simpa using this
theorem toList_ofLL (l:List UInt8):(ofL l).toList=l:=by rw[ByteArray.toList_eq];rfl
theorem headR_ne2 {l:List UInt8} (h:(splitC 32 l).length≠2):headR l=none:=by
 unfold headR
 split
 ·rename_i r w e;rw[e] at h;exact absurd rfl h
 ·rfl
theorem mem_bl {s:ByteArray} {c:UInt8} (h:c ∈ bl s):∃ (i:Nat) (hi:i<s.size),s[i]=c:=by
 obtain⟨i,hi,e⟩:=List.mem_iff_getElem.1 h;have hi':i<s.size:=by rw[← bl_len];exact hi
 exact⟨i,hi',by rw[← e,bl_get s i hi]⟩
theorem cut_no {s:ByteArray} (hn:∀ (i:Nat) (hi:i<s.size),s[i]≠32):lastCut 32 (bl s)=none:=lastCut_none fun h=>by
 obtain⟨i,hi,e⟩:=mem_bl h
 exact hn i hi e
theorem cut_at {s:ByteArray} (j:Nat) (hj:j<s.size) (hc:s[j]=32) (hn:∀ (i:Nat) (hi:i<s.size),j<i→s[i]≠32):lastCut 32 (bl s)=some ((bl s).take j,(bl s).drop (j+1)):=by
 have hjl:j<(bl s).length:=by rw[bl_len];exact hj
 have hb:(bl s)[j]=32:=by rw[bl_get s j hjl];exact hc
 have hl:bl s=(bl s).take j++32::(bl s).drop (j+1):=by
  conv=>lhs;rw[← List.take_append_drop j (bl s),List.drop_eq_getElem_cons hjl,hb]
 conv=>lhs;rw[hl]
 refine lastCut_of fun h=>?_
 obtain⟨i,hi,e⟩:=List.mem_iff_getElem.1 h;rw[List.length_drop,bl_len] at hi;rw[List.getElem_drop,bl_get] at e;exact hn (j+1+i) (by omega) (by omega) e
theorem bl_extract (s:ByteArray) (f k:Nat) (hk:k≤s.size):bl (s.extract f k)=seg (bl s) f k:=by rw[extract_seg s f k hk,bl_ofL]
theorem seg_take (l:List UInt8) (k:Nat):seg l 0 k=l.take k:=by unfold seg;rfl
theorem seg_drop (l:List UInt8) (k n:Nat) (h:l.length≤n):seg l k n=l.drop k:=by unfold seg;rw[List.take_of_length_le h]
end Go.Proofs.YtmkkiglcpedkiaaGreatDoor
