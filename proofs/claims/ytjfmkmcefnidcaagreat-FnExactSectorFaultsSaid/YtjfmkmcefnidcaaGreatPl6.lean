/- Contracts: rows of licences that can stand beside each other, for the program and for the reference. Conditions: bounded lengths. -/
import Derived.Test.YtjfmkmcefnidcaaGreatPl4
import Derived.Test.YtjfmkmcefnidcaaGreatHLicence
namespace Go.Proofs.YtjfmkmcefnidcaaGreat
set_option maxHeartbeats 8000000
set_option maxRecDepth 100000
open Go.RowKit
set_option linter.unusedVariables false
set_option linter.unusedSimpArgs false
def okL (l:List DLicence) (j:Nat):Bool:=upOk licB ltLicence l j&&!((l.take j).any (clashB (gLicence l j)))
def holdB (l:List DLicence):Bool:=decide (l.length≤24)&&(List.range l.length).all (okL l)
theorem allR_true {f:Nat→Bool} {n:Nat} (h:∀ j,j<n→f j=true):(List.range n).all f=true:=by
 rw[List.all_eq_true]
 intro j hj
 exact h j (by simpa using hj)
theorem allR_false {f:Nat→Bool} {n k:Nat} (hk:k<n) (h:f k=false):(List.range n).all f=false:=by
 rw[List.all_eq_false]
 exact⟨k,by simpa using hk,by simp[h]⟩
theorem flat_take {α:Type} (g:α→List Tr) (k:Nat) (hg:∀ x,(g x).length=k) (l:List α) (i:Nat):(l.flatMap g).take (i*k)=(l.take i).flatMap g:=by
 induction l generalizing i with
 | nil=>simp
 | cons x l ih =>
  cases i with
  | zero=>simp
  | succ i =>
   rw[List.take_succ_cons,List.flatMap_cons,List.flatMap_cons,List.take_append,hg,← ih,List.take_of_length_le (l:=g x) (by rw[hg,Nat.succ_mul];omega)]
   rw[show (i+1)*k-k=i*k by rw[Nat.succ_mul];omega]
theorem Rd.takeN {B:Nat} {w:World} {k:Nat} {es:List Tr} {a:Option Addr} {n c:Nat} (h:Rd B w (.sl k es) (.slice a n c)) {m:Nat} (hm:m≤n):Rd B w (.sl k (es.take (m*k))) (.slice a m c):=by
 obtain⟨fp,h,hf⟩:=h
 rw[Rep_sl] at h
 obtain⟨a',n',c',he,hl,hn,hc,h⟩:=h
 injection he with h1 h2 h3
 subst h1 h2 h3
 have hml:m*k≤n*k:=Nat.mul_le_mul_right k hm
 have htl:(es.take (m*k)).length=m*k:=by rw[List.length_take];omega
 rcases h with ⟨rfl,rfl⟩|⟨b,off,f,hne,ha,hfp,hr⟩
 ·exact⟨[],Rep_sl.2 ⟨a,m,c,rfl,htl,by omega,hc,Or.inl ⟨by simp,rfl⟩⟩,fun b h=>by simp at h⟩
 ·by_cases e:es.take (m*k) = []
  ·exact⟨[],Rep_sl.2 ⟨a,m,c,rfl,htl,by omega,hc,Or.inl ⟨e,rfl⟩⟩,fun b h=>by simp at h⟩
  ·rw[← List.take_append_drop (m*k) es] at hr
   obtain⟨f1,f2,hr1,_,hff⟩:=hr.split
   subst hfp
   refine⟨b::f1,Rep_sl.2 ⟨a,m,c,rfl,htl,by omega,hc,Or.inr ⟨b,off,f1,e,ha,rfl,hr1⟩⟩,fun x hx=>hf x ?_⟩
   rcases List.mem_cons.1 hx with rfl|hx
   ·simp
   ·simp[hff,hx]
theorem DLicence.rd_take {B:Nat} {w:World} {l:List DLicence} {a:Option Addr} {c:Nat} (h:Rd B w (DLicence.sT l) (.slice a l.length c)) {m:Nat} (hm:m≤l.length):Rd B w (DLicence.sT (l.take m)) (.slice a (l.take m).length c):=by
 have:=h.takeN hm
 rw[flat_take DLicence.tr 11 DLicence.tr_len] at this
 rw[List.length_take,Nat.min_eq_left hm]
 exact this
theorem okL_prev {l:List DLicence} {k:Nat} (h:∀ j,j<k→okL l j=true) (hk:k≤l.length):∀ y ∈ l.take k,licB y=true:=by
 intro y hy
 obtain⟨i,hi,rfl⟩:=List.getElem_of_mem hy
 have hi2:i<k:=by rw[List.length_take] at hi;omega
 have:=h i hi2
 unfold okL at this
 rw[Bool.and_eq_true] at this
 have h2:=this.1
 unfold upOk at h2
 rw[List.getElem?_eq_getElem (show i<l.length by omega)] at h2
 simp only[Bool.and_eq_true] at h2
 rw[List.getElem_take]
 exact h2.1
theorem any_clash {l:List DLicence} {A:DLicence} (hA:licB A=true) (h:∀ y ∈ l,licB y=true):l.any (clashF A)=l.any (clashB A):=by
 induction l with
 | nil=>rfl
 | cons x l ih =>
  rw[List.any_cons,List.any_cons,clashF_eq hA (h x (by simp)),ih (fun y hy=>h y (by simp[hy]))]
theorem indexFuncLicence_any (l:List DLicence) (p:DLicence→Bool) (fn:FuncId) (cap:List Value) (v:Value) (B:Nat) (w:World) (h:Rd B w (DLicence.sT l) v) (hB:B≤w.heap.size) (hn:l.length≤1099511627776)
  (hcf:∀ (args:Array Value) (W:World),(callFunc fn args).run Tryz.prog W=.ok (.enter fn args) W)
  (hf:∀ x ∈ l,∀ W:World,Below w.heap.size w W→Calls Tryz.prog fn (Value.agg #[.string x.id,.string x.holder,.int .i64 x.low,.int .i64 x.high,.int .i64 x.area.west,.int .i64 x.area.south,.int .i64 x.area.east,.int .i64 x.area.north,.int .i64 x.from_,.int .i64 x.until_,.int .i64 x.power]::cap).toArray W fun e W'=>e=.returned (.bool (p x))∧Below W.heap.size W W') :
  Calls Tryz.prog 219 #[v,.func (.func fn) #[] cap.toArray] w fun e w'=>e=.returned (.int .i64 (firstIdx' p l))∧Below w.heap.size w w':=by
 obtain⟨a,c,rfl,hnc,hcm,hcells⟩:=DLicence.rd h
 clear h
 have hnb:(l.length:Int)≤1099511627776:=by omega
 have HF:=Lib.hid hf
 clear hf
 go_enter Tryz.func219,Tryz.ntmps219
 go_wp2
 go_loopw [8] (fun i wr=>∃ (k:Nat),k≤l.length∧i=.int .i64 k∧(l.take k).any p=false∧Below w.heap.size w wr) (fun i wr=>l.length-(intOf i).toNat)
 case atStart=>exact⟨0,Nat.zero_le _,rfl,by simp,Below.refl _ _⟩
 case round =>
  obtain⟨k,hk,rfl,hno,hb⟩:=hrel
  have HN:=Lib.hid hno
  clear hno
  by_cases hlt:k<l.length
  ·obtain⟨b,off,rfl,hbl,hat⟩:=hcells (by omega)
   obtain⟨s0,s1,s2,s3,s4,s5,s6,s7,s8,s9,s10⟩:=hat k hlt
   rw[← hb.cell (p:=⟨b,_,none⟩) (show b<w.heap.size by omega)] at s0 s1 s2 s3 s4 s5 s6 s7 s8 s9 s10
   have HB:=Lib.hid hb
   clear hcells hat hb
   go_wp2_with fail
   refine (HF.out l[k] (List.getElem_mem hlt)  _ HB.out).mono ?_
   rintro e w1 ⟨rfl,hb1⟩
   have HB1:=Lib.hid (HB.out.trans (hb1.mono HB.out.size))
   clear hb1
   by_cases hp:p l[k]=true
   ·go_wp2
    go_ret
    exact⟨by rw[firstIdx_at p l k hlt hp HN.out];rfl,HB1.out⟩
   ·have hp':p l[k]=false:=by simpa using hp
    clear hp
    go_wp2
    go_roundw
    case rel=>exact⟨k+1,by omega,by go_num,by rw[any_take_succ p l k hlt,HN.out,hp'];rfl,HB1.out⟩
    case measure=>simp[intOf];omega
  ·obtain rfl:k=l.length:=by omega
   clear hcells
   go_wp2
   go_ret
   have:=HN.out
   rw[List.take_length] at this
   exact⟨by rw[firstIdx_none p l this];rfl,hb⟩
theorem containsFuncLicence_any (l:List DLicence) (p:DLicence→Bool) (fn:FuncId) (cap:List Value) (v:Value) (B:Nat) (w:World) (h:Rd B w (DLicence.sT l) v) (hB:B≤w.heap.size) (hn:l.length≤1099511627776)
  (hcf:∀ (args:Array Value) (W:World),(callFunc fn args).run Tryz.prog W=.ok (.enter fn args) W)
  (hf:∀ x ∈ l,∀ W:World,Below w.heap.size w W→Calls Tryz.prog fn (Value.agg #[.string x.id,.string x.holder,.int .i64 x.low,.int .i64 x.high,.int .i64 x.area.west,.int .i64 x.area.south,.int .i64 x.area.east,.int .i64 x.area.north,.int .i64 x.from_,.int .i64 x.until_,.int .i64 x.power]::cap).toArray W fun e W'=>e=.returned (.bool (p x))∧Below W.heap.size W W') :
  Calls Tryz.prog 171 #[v,.func (.func fn) #[] cap.toArray] w fun e w'=>e=.returned (.bool (l.any p))∧Below w.heap.size w w':=by
 have HC:=Lib.hid (indexFuncLicence_any l p fn cap v B w h hB hn hcf hf)
 have HE:=Lib.hid (firstIdx_nonneg' p l)
 clear hf h hcf
 generalize l.any p=r at *
 go_enter Tryz.func171,Tryz.ntmps171
 go_wp2_with fail
 refine (HC.out).mono ?_
 rintro e w1 ⟨rfl,hb1⟩
 have he:=HE.out
 generalize firstIdx' p l=m at *
 go_wp2
 go_ret
 exact⟨rfl,hb1⟩
theorem holdClosure_any (x y:DLicence) (kx0:x.id.size≤maxLen) (kx1:x.holder.size≤maxLen) (ky0:y.id.size≤maxLen) (ky1:y.holder.size≤maxLen) (q:Nat) (w:World) (c0:w.cell? ⟨q,0,none⟩=some (.string x.id)) (c1:w.cell? ⟨q,1,none⟩=some (.string x.holder)) (c2:w.cell? ⟨q,2,none⟩=some (.int .i64 x.low)) (c3:w.cell? ⟨q,3,none⟩=some (.int .i64 x.high)) (c4:w.cell? ⟨q,4,none⟩=some (.int .i64 x.area.west)) (c5:w.cell? ⟨q,5,none⟩=some (.int .i64 x.area.south)) (c6:w.cell? ⟨q,6,none⟩=some (.int .i64 x.area.east)) (c7:w.cell? ⟨q,7,none⟩=some (.int .i64 x.area.north)) (c8:w.cell? ⟨q,8,none⟩=some (.int .i64 x.from_)) (c9:w.cell? ⟨q,9,none⟩=some (.int .i64 x.until_)) (c10:w.cell? ⟨q,10,none⟩=some (.int .i64 x.power)) :
  Calls Tryz.prog 172 #[.agg #[.string y.id,.string y.holder,.int .i64 y.low,.int .i64 y.high,.int .i64 y.area.west,.int .i64 y.area.south,.int .i64 y.area.east,.int .i64 y.area.north,.int .i64 y.from_,.int .i64 y.until_,.int .i64 y.power],.pointer (some ⟨q,0,none⟩)] w fun e w'=>e=.returned (.bool (clashF x y))∧Below w.heap.size w w':=by
 have hq:=cell_lt c0
 dsimp only at hq
 have CC:Hid (∀ W:World,Calls Tryz.prog 173 #[.agg #[.string x.id,.string x.holder,.int .i64 x.low,.int .i64 x.high,.int .i64 x.area.west,.int .i64 x.area.south,.int .i64 x.area.east,.int .i64 x.area.north,.int .i64 x.from_,.int .i64 x.until_,.int .i64 x.power],.agg #[.string y.id,.string y.holder,.int .i64 y.low,.int .i64 y.high,.int .i64 y.area.west,.int .i64 y.area.south,.int .i64 y.area.east,.int .i64 y.area.north,.int .i64 y.from_,.int .i64 y.until_,.int .i64 y.power]] W fun e w'=>e=.returned (.bool (clashF x y))∧Below W.heap.size W w'):=fun W=>clashOf_any x y kx0 kx1 ky0 ky1 W
 have hb:Below w.heap.size w (w.alloc (.cells #[.string y.id,.string y.holder,.int .i64 y.low,.int .i64 y.high,.int .i64 y.area.west,.int .i64 y.area.south,.int .i64 y.area.east,.int .i64 y.area.north,.int .i64 y.from_,.int .i64 y.until_,.int .i64 y.power] 90)):=(Below.refl _ _).alloc (Nat.le_refl _) _
 have d0:=(hb.cell (p:=⟨q,0,none⟩) hq).trans c0
 have d1:=(hb.cell (p:=⟨q,1,none⟩) hq).trans c1
 have d2:=(hb.cell (p:=⟨q,2,none⟩) hq).trans c2
 have d3:=(hb.cell (p:=⟨q,3,none⟩) hq).trans c3
 have d4:=(hb.cell (p:=⟨q,4,none⟩) hq).trans c4
 have d5:=(hb.cell (p:=⟨q,5,none⟩) hq).trans c5
 have d6:=(hb.cell (p:=⟨q,6,none⟩) hq).trans c6
 have d7:=(hb.cell (p:=⟨q,7,none⟩) hq).trans c7
 have d8:=(hb.cell (p:=⟨q,8,none⟩) hq).trans c8
 have d9:=(hb.cell (p:=⟨q,9,none⟩) hq).trans c9
 have d10:=(hb.cell (p:=⟨q,10,none⟩) hq).trans c10
 have B0:=Lib.hid hb
 have zz:w.heap.size≤(w.alloc (.cells #[.string y.id,.string y.holder,.int .i64 y.low,.int .i64 y.high,.int .i64 y.area.west,.int .i64 y.area.south,.int .i64 y.area.east,.int .i64 y.area.north,.int .i64 y.from_,.int .i64 y.until_,.int .i64 y.power] 90)).heap.size:=hb.size
 clear hb
 go_enter Tryz.func172,Tryz.ntmps172
 go_wp2_with fail
 refine (CC.out _).mono ?_
 rintro e w2 ⟨rfl,hb2⟩
 have B2:=Lib.hid (B0.out.trans (hb2.mono zz))
 go_wp2
 go_ret
 exact⟨rfl,B2.out⟩
theorem iValidHoldings_any (l:List DLicence) (v:Value) (B:Nat) (w:World) (h:Rd B w (DLicence.sT l) v) (hB:B≤w.heap.size) (hk:∀ x ∈ l,x.ok) (hn:l.length≤1099511627776) :
  Calls Tryz.prog 110 #[v] w fun e w'=>e=.returned (.bool (holdB l))∧Below w.heap.size w w':=by
 obtain⟨a,c,rfl,hnc,hcm,hcells⟩:=DLicence.rd h
 have HRD:=Lib.hid h
 clear h
 have HCL:=Lib.hid hcells
 clear hcells
 by_cases hlim:l.length≤24
 case neg =>
  have hx:24<l.length:=by omega
  have hx2:(24:Int)<(l.length:Int):=by omega
  have HE:Hid (holdB l=false):=by show _=_;unfold holdB;rw[decide_eq_false hlim];simp
  go_enter Tryz.func110,Tryz.ntmps110
  go_wp2
  go_ret
  exact⟨by rw[HE.out];rfl,Below.refl _ _⟩
 have hli:(l.length:Int)≤24:=by omega
 have HE:Hid (holdB l=(List.range l.length).all (okL l)):=by show _=_;unfold holdB;rw[decide_eq_true hlim];simp
 go_enter Tryz.func110,Tryz.ntmps110
 go_wp2
 go_loopw [10] (fun i wr=>∃ (k:Nat),k≤l.length∧i=.int .i64 k∧(∀ j,j<k→okL l j=true)∧Below w.heap.size w wr) (fun i wr=>l.length-(intOf i).toNat)
 case atStart=>exact⟨0,Nat.zero_le _,rfl,fun j hj=>absurd hj (by omega),Below.refl _ _⟩
 case round =>
  obtain⟨k,hk1,rfl,hno,hb⟩:=hrel
  have HN:=Lib.hid hno
  have HB:=Lib.hid hb
  have zb:=hb.size
  clear hno hb
  by_cases hlt:k<l.length
  ·obtain⟨b,off,ea,hbl,hat⟩:=HCL.out (by omega)
   subst ea
   obtain⟨s0,s1,s2,s3,s4,s5,s6,s7,s8,s9,s10⟩:=hat k hlt
   have hok:=hk _ (List.getElem_mem hlt)
   have ks0:=hok.id
   have ks1:=hok.holder
   have hbw:b<w.heap.size:=by omega
   rw[← bat HB.out b _ hbw] at s0 s1 s2 s3 s4 s5 s6 s7 s8 s9 s10
   have sp:0<k→wr.cell? ⟨b,off+(k-1)*11,none⟩=some (.string (gLicence l (k-1)).id):=fun h=>by
    have t:=(hat (k-1) (by omega)).1
    rw[← bat HB.out b _ hbw,gLicence_eq (show k-1<l.length by omega)] at t
    exact t
   have SP:=Lib.hid sp
   clear sp hat
   have HUN:Hid (licB (gLicence l k)=false→(List.range l.length).all (okL l)=false):=fun h=>allR_false hlt (by unfold okL;rw[upOk_not hlt (by rw[gLicence_eq hlt];exact h)];rfl)
   have HOK:Hid (okL l k=(upOk licB ltLicence l k&&!((l.take k).any (clashB (gLicence l k))))):=rfl
   have hkm:∀ y ∈ l.take k,y.ok:=fun y hy=>hk y (List.mem_of_mem_take hy)
   have HTK:Hid (∀ y ∈ l.take k,licB y=true):=okL_prev HN.out hk1
   have hmin:(l.take k).length=k:=by rw[List.length_take];omega
   have HRT:=Lib.hid (DLicence.rd_take HRD.out (m:=k) (by omega))
   rw[hmin] at HRT
   have hkc:(k:Int)≤(c:Int):=by omega
   have hkl:(k:Int)≤(l.length:Int):=by omega
   have HUZ:Hid (k=0→licB (gLicence l k)=true→upOk licB ltLicence l k=true):=fun e h=>by subst e;rw[upOk_zero hlt,gLicence_eq hlt];exact h
   have HUP:Hid (0<k→upOk licB ltLicence l k=(licB (gLicence l k)&&ltLicence (gLicence l (k-1)) (gLicence l k))):=fun h=>by rw[upOk_pos h hlt,gLicence_eq hlt,gLicence_eq (show k-1<l.length by omega)]
   rw[gLicence_eq hlt] at s0 s1 s2 s3 s4 s5 s6 s7 s8 s9 s10 ks0 ks1
   generalize hA:gLicence l k=A at *
   generalize hP:gLicence l (k-1)=P at *
   clear hA hP hok
   have i1:(0:Int)≤(k:Int):=by omega
   have i2:(k:Int)<(l.length:Int):=by omega
   have yb:b<wr.heap.size:=by omega
   have HV:Hid (∀ W:World,Calls Tryz.prog 170 #[.agg #[.string A.id,.string A.holder,.int .i64 A.low,.int .i64 A.high,.int .i64 A.area.west,.int .i64 A.area.south,.int .i64 A.area.east,.int .i64 A.area.north,.int .i64 A.from_,.int .i64 A.until_,.int .i64 A.power]] W fun e w'=>e=.returned (.bool (licB A))∧Below W.heap.size W w'):=fun W=>validLicence_any A ks0 ks1 W
   go_wp2
   have b1:Below wr.heap.size wr (wr.alloc (.cells #[.string A.id,.string A.holder,.int .i64 A.low,.int .i64 A.high,.int .i64 A.area.west,.int .i64 A.area.south,.int .i64 A.area.east,.int .i64 A.area.north,.int .i64 A.from_,.int .i64 A.until_,.int .i64 A.power] 90)):=(Below.refl _ _).alloc (Nat.le_refl _) _
   have f0:(wr.alloc (.cells #[.string A.id,.string A.holder,.int .i64 A.low,.int .i64 A.high,.int .i64 A.area.west,.int .i64 A.area.south,.int .i64 A.area.east,.int .i64 A.area.north,.int .i64 A.from_,.int .i64 A.until_,.int .i64 A.power] 90)).cell? ⟨wr.heap.size,0,none⟩=some (.string A.id):=by simp[go_sem]
   have f1:(wr.alloc (.cells #[.string A.id,.string A.holder,.int .i64 A.low,.int .i64 A.high,.int .i64 A.area.west,.int .i64 A.area.south,.int .i64 A.area.east,.int .i64 A.area.north,.int .i64 A.from_,.int .i64 A.until_,.int .i64 A.power] 90)).cell? ⟨wr.heap.size,1,none⟩=some (.string A.holder):=by simp[go_sem]
   have f2:(wr.alloc (.cells #[.string A.id,.string A.holder,.int .i64 A.low,.int .i64 A.high,.int .i64 A.area.west,.int .i64 A.area.south,.int .i64 A.area.east,.int .i64 A.area.north,.int .i64 A.from_,.int .i64 A.until_,.int .i64 A.power] 90)).cell? ⟨wr.heap.size,2,none⟩=some (.int .i64 A.low):=by simp[go_sem]
   have f3:(wr.alloc (.cells #[.string A.id,.string A.holder,.int .i64 A.low,.int .i64 A.high,.int .i64 A.area.west,.int .i64 A.area.south,.int .i64 A.area.east,.int .i64 A.area.north,.int .i64 A.from_,.int .i64 A.until_,.int .i64 A.power] 90)).cell? ⟨wr.heap.size,3,none⟩=some (.int .i64 A.high):=by simp[go_sem]
   have f4:(wr.alloc (.cells #[.string A.id,.string A.holder,.int .i64 A.low,.int .i64 A.high,.int .i64 A.area.west,.int .i64 A.area.south,.int .i64 A.area.east,.int .i64 A.area.north,.int .i64 A.from_,.int .i64 A.until_,.int .i64 A.power] 90)).cell? ⟨wr.heap.size,4,none⟩=some (.int .i64 A.area.west):=by simp[go_sem]
   have f5:(wr.alloc (.cells #[.string A.id,.string A.holder,.int .i64 A.low,.int .i64 A.high,.int .i64 A.area.west,.int .i64 A.area.south,.int .i64 A.area.east,.int .i64 A.area.north,.int .i64 A.from_,.int .i64 A.until_,.int .i64 A.power] 90)).cell? ⟨wr.heap.size,5,none⟩=some (.int .i64 A.area.south):=by simp[go_sem]
   have f6:(wr.alloc (.cells #[.string A.id,.string A.holder,.int .i64 A.low,.int .i64 A.high,.int .i64 A.area.west,.int .i64 A.area.south,.int .i64 A.area.east,.int .i64 A.area.north,.int .i64 A.from_,.int .i64 A.until_,.int .i64 A.power] 90)).cell? ⟨wr.heap.size,6,none⟩=some (.int .i64 A.area.east):=by simp[go_sem]
   have f7:(wr.alloc (.cells #[.string A.id,.string A.holder,.int .i64 A.low,.int .i64 A.high,.int .i64 A.area.west,.int .i64 A.area.south,.int .i64 A.area.east,.int .i64 A.area.north,.int .i64 A.from_,.int .i64 A.until_,.int .i64 A.power] 90)).cell? ⟨wr.heap.size,7,none⟩=some (.int .i64 A.area.north):=by simp[go_sem]
   have f8:(wr.alloc (.cells #[.string A.id,.string A.holder,.int .i64 A.low,.int .i64 A.high,.int .i64 A.area.west,.int .i64 A.area.south,.int .i64 A.area.east,.int .i64 A.area.north,.int .i64 A.from_,.int .i64 A.until_,.int .i64 A.power] 90)).cell? ⟨wr.heap.size,8,none⟩=some (.int .i64 A.from_):=by simp[go_sem]
   have f9:(wr.alloc (.cells #[.string A.id,.string A.holder,.int .i64 A.low,.int .i64 A.high,.int .i64 A.area.west,.int .i64 A.area.south,.int .i64 A.area.east,.int .i64 A.area.north,.int .i64 A.from_,.int .i64 A.until_,.int .i64 A.power] 90)).cell? ⟨wr.heap.size,9,none⟩=some (.int .i64 A.until_):=by simp[go_sem]
   have f10:(wr.alloc (.cells #[.string A.id,.string A.holder,.int .i64 A.low,.int .i64 A.high,.int .i64 A.area.west,.int .i64 A.area.south,.int .i64 A.area.east,.int .i64 A.area.north,.int .i64 A.from_,.int .i64 A.until_,.int .i64 A.power] 90)).cell? ⟨wr.heap.size,10,none⟩=some (.int .i64 A.power):=by simp[go_sem]
   have fz:wr.heap.size<(wr.alloc (.cells #[.string A.id,.string A.holder,.int .i64 A.low,.int .i64 A.high,.int .i64 A.area.west,.int .i64 A.area.south,.int .i64 A.area.east,.int .i64 A.area.north,.int .i64 A.from_,.int .i64 A.until_,.int .i64 A.power] 90)).heap.size:=by simp
   generalize hW1:(wr.alloc (.cells #[.string A.id,.string A.holder,.int .i64 A.low,.int .i64 A.high,.int .i64 A.area.west,.int .i64 A.area.south,.int .i64 A.area.east,.int .i64 A.area.north,.int .i64 A.from_,.int .i64 A.until_,.int .i64 A.power] 90))=W1 at *
   have BH:=Lib.hid (HB.out.trans (b1.mono (by omega)))
   have B1:=Lib.hid b1
   have zz:=b1.size
   clear b1 hW1
   have HCF:Hid (licB A=true→∀ W:World,Below W1.heap.size W1 W→Calls Tryz.prog 171 #[.slice (some ⟨b,off,none⟩) k c,.func (.func 172) #[] #[.pointer (some ⟨wr.heap.size,0,none⟩)]] W fun e w'=>e=.returned (.bool ((l.take k).any (clashB A)))∧Below W.heap.size W w'):=fun hA W hW=>by
    rw[← any_clash hA HTK.out]
    exact containsFuncLicence_any (l.take k) (clashF A) 172 [.pointer (some ⟨wr.heap.size,0,none⟩)] _ B W (HRT.out.below ((BH.out.trans (hW.mono (by omega))).mono hB)) (by have:=hW.size;omega) (by omega) (fun _ _=>by kernel_rfl)
     (fun y hy W' hW'=>holdClosure_any A y ks0 ks1 (hkm y hy).id (hkm y hy).holder wr.heap.size W' ((bat (hW.trans (hW'.mono hW.size)) wr.heap.size 0 fz).trans f0) ((bat (hW.trans (hW'.mono hW.size)) wr.heap.size 1 fz).trans f1) ((bat (hW.trans (hW'.mono hW.size)) wr.heap.size 2 fz).trans f2) ((bat (hW.trans (hW'.mono hW.size)) wr.heap.size 3 fz).trans f3) ((bat (hW.trans (hW'.mono hW.size)) wr.heap.size 4 fz).trans f4) ((bat (hW.trans (hW'.mono hW.size)) wr.heap.size 5 fz).trans f5) ((bat (hW.trans (hW'.mono hW.size)) wr.heap.size 6 fz).trans f6) ((bat (hW.trans (hW'.mono hW.size)) wr.heap.size 7 fz).trans f7) ((bat (hW.trans (hW'.mono hW.size)) wr.heap.size 8 fz).trans f8) ((bat (hW.trans (hW'.mono hW.size)) wr.heap.size 9 fz).trans f9) ((bat (hW.trans (hW'.mono hW.size)) wr.heap.size 10 fz).trans f10))
   by_cases c1:licB A=true
   case neg =>
    replace c1:licB A=false:=Bool.eq_false_iff.2 c1
    have HF:Hid ((List.range l.length).all (okL l)=false):=HUN.out c1
    have oX:=overC (w0:=W1) fz
    have oB:=overC (w0:=W1) (show b<W1.heap.size by omega)
    rw[c1] at HV
    refine wp_region_over W1.heap.size W1 (Below.refl _ _) (by kernel_rfl) (by kernel_rfl) ?_
    repeat (go_big_quiet_step (first|(go_at_call 170;exact over_left (Nat.le_refl _) (HV.out _))|(go_at_call 171;with_reducible exact over_left (Nat.le_refl _) (HCF.out c1 _ (over_below _ _ _)))))
    refine wpQuiet_nil ?_
    rintro _ ⟨X,rfl⟩
    have hX:=over_below W1.heap.size W1 X
    clear oB oX
    generalize over W1.heap.size W1 X=w2 at *
    have BF:=Lib.hid (BH.out.trans (hX.mono (by omega)))
    clear hX
    have HQ:Hid (holdB l=false):=by show _=_;rw[HE.out];exact HF.out
    go_wp2
    go_ret
    exact⟨by rw[HQ.out];rfl,BF.out⟩
   have HM:Hid (licB A=true):=c1
   by_cases c3:0<k
   case neg =>
    have i8:decide (0<k)=false:=by simpa using c3
    have HF:Hid (upOk licB ltLicence l k=true):=HUZ.out (by omega) HM.out
    by_cases c5:(l.take k).any (clashB A)=true
    case pos =>
     have HG:Hid ((List.range l.length).all (okL l)=false):=allR_false hlt (by rw[HOK.out,c5];simp)
     rw[c5] at HCF
     have oX:=overC (w0:=W1) fz
     have oB:=overC (w0:=W1) (show b<W1.heap.size by omega)
     rw[c1] at HV
     refine wp_region_over W1.heap.size W1 (Below.refl _ _) (by kernel_rfl) (by kernel_rfl) ?_
     repeat (go_big_quiet_step (first|(go_at_call 170;exact over_left (Nat.le_refl _) (HV.out _))|(go_at_call 171;with_reducible exact over_left (Nat.le_refl _) (HCF.out c1 _ (over_below _ _ _)))))
     refine wpQuiet_nil ?_
     rintro _ ⟨X,rfl⟩
     have hX:=over_below W1.heap.size W1 X
     clear oB oX
     generalize over W1.heap.size W1 X=w2 at *
     have BF:=Lib.hid (BH.out.trans (hX.mono (by omega)))
     clear hX
     have HQ:Hid (holdB l=false):=by show _=_;rw[HE.out];exact HG.out
     go_wp2
     go_ret
     exact⟨by rw[HQ.out];rfl,BF.out⟩
    replace c5:(l.take k).any (clashB A)=false:=Bool.eq_false_iff.2 c5
    rw[c5] at HCF
    have HG:Hid (okL l k=true):=by show _=_;rw[HOK.out,HF.out,c5];rfl
    have oX:=overC (w0:=W1) fz
    have oB:=overC (w0:=W1) (show b<W1.heap.size by omega)
    rw[c1] at HV
    refine wp_region_over W1.heap.size W1 (Below.refl _ _) (by kernel_rfl) (by kernel_rfl) ?_
    repeat (go_big_quiet_step (first|(go_at_call 170;exact over_left (Nat.le_refl _) (HV.out _))|(go_at_call 171;with_reducible exact over_left (Nat.le_refl _) (HCF.out c1 _ (over_below _ _ _)))))
    refine wpQuiet_nil ?_
    rintro _ ⟨X,rfl⟩
    have hX:=over_below W1.heap.size W1 X
    clear oB oX
    generalize over W1.heap.size W1 X=w2 at *
    have BF:=Lib.hid (BH.out.trans (hX.mono (by omega)))
    clear hX
    go_wp2
    go_roundw
    case rel=>exact⟨k+1,by omega,by go_num,upTo_succ HN.out (HG.out),BF.out⟩
    case measure=>simp[intOf];omega
   have i3:IntKind.i64.wrap ((k:Int)-1)=(k:Int)-1:=IntWalk.i64_in _ (by omega)
   have i4:(0:Int)≤(k:Int)-1:=by omega
   have i6:(k:Int)-1<(l.length:Int):=by omega
   have i7:(1:Int)≤(k:Int):=by omega
   have i8:decide (0<k)=true:=by simpa using c3
   have i5:((k:Int)-1).toNat=k-1:=by omega
   by_cases c4:ltS P.id A.id=true
   case neg =>
    replace c4:ltS P.id A.id=false:=Bool.eq_false_iff.2 c4
    have le4:=geS_of_not c4
    have HF:Hid ((List.range l.length).all (okL l)=false):=allR_false hlt (by rw[HOK.out,HUP.out c3,show ltLicence P A=false from c4];simp)
    have fp:=(bat B1.out b _ yb).trans (SP.out c3)
    have oX:=overC (w0:=W1) fz
    have oB:=overC (w0:=W1) (show b<W1.heap.size by omega)
    rw[c1] at HV
    refine wp_region_over W1.heap.size W1 (Below.refl _ _) (by kernel_rfl) (by kernel_rfl) ?_
    repeat (go_big_quiet_step (first|(go_at_call 170;exact over_left (Nat.le_refl _) (HV.out _))|(go_at_call 171;with_reducible exact over_left (Nat.le_refl _) (HCF.out c1 _ (over_below _ _ _)))))
    refine wpQuiet_nil ?_
    rintro _ ⟨X,rfl⟩
    have hX:=over_below W1.heap.size W1 X
    clear oB oX
    generalize over W1.heap.size W1 X=w2 at *
    have BF:=Lib.hid (BH.out.trans (hX.mono (by omega)))
    clear hX
    clear i3 i5
    have HQ:Hid (holdB l=false):=by show _=_;rw[HE.out];exact HF.out
    go_wp2
    go_ret
    exact⟨by rw[HQ.out];rfl,BF.out⟩
   have le4:=geS_of_lt c4
   have HF:Hid (upOk licB ltLicence l k=true):=by show _=_;rw[HUP.out c3,Bool.and_eq_true];exact⟨HM.out,c4⟩
   by_cases c5:(l.take k).any (clashB A)=true
   case pos =>
    have HG:Hid ((List.range l.length).all (okL l)=false):=allR_false hlt (by rw[HOK.out,c5];simp)
    rw[c5] at HCF
    have fp:=(bat B1.out b _ yb).trans (SP.out c3)
    have oX:=overC (w0:=W1) fz
    have oB:=overC (w0:=W1) (show b<W1.heap.size by omega)
    rw[c1] at HV
    refine wp_region_over W1.heap.size W1 (Below.refl _ _) (by kernel_rfl) (by kernel_rfl) ?_
    repeat (go_big_quiet_step (first|(go_at_call 170;exact over_left (Nat.le_refl _) (HV.out _))|(go_at_call 171;with_reducible exact over_left (Nat.le_refl _) (HCF.out c1 _ (over_below _ _ _)))))
    refine wpQuiet_nil ?_
    rintro _ ⟨X,rfl⟩
    have hX:=over_below W1.heap.size W1 X
    clear oB oX
    generalize over W1.heap.size W1 X=w2 at *
    have BF:=Lib.hid (BH.out.trans (hX.mono (by omega)))
    clear hX
    clear i3 i5
    have HQ:Hid (holdB l=false):=by show _=_;rw[HE.out];exact HG.out
    go_wp2
    go_ret
    exact⟨by rw[HQ.out];rfl,BF.out⟩
   replace c5:(l.take k).any (clashB A)=false:=Bool.eq_false_iff.2 c5
   rw[c5] at HCF
   have HG:Hid (okL l k=true):=by show _=_;rw[HOK.out,HF.out,c5];rfl
   have fp:=(bat B1.out b _ yb).trans (SP.out c3)
   have oX:=overC (w0:=W1) fz
   have oB:=overC (w0:=W1) (show b<W1.heap.size by omega)
   rw[c1] at HV
   refine wp_region_over W1.heap.size W1 (Below.refl _ _) (by kernel_rfl) (by kernel_rfl) ?_
   repeat (go_big_quiet_step (first|(go_at_call 170;exact over_left (Nat.le_refl _) (HV.out _))|(go_at_call 171;with_reducible exact over_left (Nat.le_refl _) (HCF.out c1 _ (over_below _ _ _)))))
   refine wpQuiet_nil ?_
   rintro _ ⟨X,rfl⟩
   have hX:=over_below W1.heap.size W1 X
   clear oB oX
   generalize over W1.heap.size W1 X=w2 at *
   have BF:=Lib.hid (BH.out.trans (hX.mono (by omega)))
   clear hX
   clear i3 i5
   go_wp2
   go_roundw
   case rel=>exact⟨k+1,by omega,by go_num,upTo_succ HN.out (HG.out),BF.out⟩
   case measure=>simp[intOf];omega
  ·obtain rfl:k=l.length:=by omega
   have HR:Hid ((List.range l.length).all (okL l)=true):=allR_true HN.out
   have HQ:Hid (holdB l=true):=by show _=_;rw[HE.out];exact HR.out
   go_wp2
   go_ret
   exact⟨by rw[HQ.out];rfl,HB.out⟩
open Go.RowKit
set_option linter.unusedVariables false
set_option linter.unusedSimpArgs false
theorem any_take_none {l:List DLicence} {p:DLicence→Bool} {k:Nat} (hk:k≤l.length) (h:∀ j,j<k→p (gLicence l j)=false):(l.take k).any p=false:=by
 rw[List.any_eq_false]
 intro x hx
 obtain⟨i,hi,rfl⟩:=List.getElem_of_mem hx
 rw[List.length_take] at hi
 rw[List.getElem_take,gLicence_eq (show i<l.length by omega),h i (by omega)]
 simp
theorem any_take_some {l:List DLicence} {p:DLicence→Bool} {k m:Nat} (hk:k≤l.length) (hm:m<k) (h:p (gLicence l m)=true):(l.take k).any p=true:=by
 rw[List.any_eq_true]
 refine⟨l[m]'(by omega),?_,by rw[gLicence_eq (show m<l.length by omega)];exact h⟩
 rw[List.mem_take_iff_getElem]
 exact⟨m,by omega,rfl⟩
theorem sL26List_any (l:List DLicence) (v:Value) (B:Nat) (w:World) (h:Rd B w (DLicence.sT l) v) (hB:B≤w.heap.size) (hk:∀ x ∈ l,x.ok) (hn:l.length≤1099511627776) :
  Calls Tryz.prog 94 #[v] w fun e w'=>e=.returned (.bool (holdB l))∧Below w.heap.size w w':=by
 obtain⟨a,c,rfl,hnc,hcm,hcells⟩:=DLicence.rd h
 clear h
 have HCL:=Lib.hid hcells
 clear hcells
 have hli:(l.length:Int)≤1099511627776:=by omega
 go_enter Tryz.func94,Tryz.ntmps94
 go_wp2
 go_loopw [3] (fun i wr=>∃ (k:Nat),k≤l.length∧i=.int .i64 k∧(∀ j,j<k→okL l j=true)∧Below w.heap.size w wr) (fun i wr=>l.length-(intOf i).toNat)
 case atStart=>exact⟨0,Nat.zero_le _,rfl,fun j hj=>absurd hj (by omega),Below.refl _ _⟩
 case round =>
  obtain⟨k,hk1,rfl,hno,hb⟩:=hrel
  have HN:=Lib.hid hno
  have HB:=Lib.hid hb
  have zb:=hb.size
  clear hno hb
  by_cases hlt:k<l.length
  ·obtain⟨b,off,ea,hbl,hat⟩:=HCL.out (by omega)
   subst ea
   obtain⟨s0,s1,s2,s3,s4,s5,s6,s7,s8,s9,s10⟩:=hat k hlt
   have hok:=hk _ (List.getElem_mem hlt)
   have ks0:=hok.id
   have ks1:=hok.holder
   have hbw:b<w.heap.size:=by omega
   rw[← bat HB.out b _ hbw] at s0 s1 s2 s3 s4 s5 s6 s7 s8 s9 s10
   have sp:0<k→wr.cell? ⟨b,off+(k-1)*11,none⟩=some (.string (gLicence l (k-1)).id):=fun h=>by
    have t:=(hat (k-1) (by omega)).1
    rw[← bat HB.out b _ hbw,gLicence_eq (show k-1<l.length by omega)] at t
    exact t
   have SP:=Lib.hid sp
   have HAT:=Lib.hid hat
   clear sp hat
   have HUN:Hid (licB (gLicence l k)=false→(List.range l.length).all (okL l)=false):=fun h=>allR_false hlt (by unfold okL;rw[upOk_not hlt (by rw[gLicence_eq hlt];exact h)];rfl)
   have HOK:Hid (okL l k=(upOk licB ltLicence l k&&!((l.take k).any (clashB (gLicence l k))))):=rfl
   have HUZ:Hid (k=0→licB (gLicence l k)=true→upOk licB ltLicence l k=true):=fun e h=>by subst e;rw[upOk_zero hlt,gLicence_eq hlt];exact h
   have HUP:Hid (0<k→upOk licB ltLicence l k=(licB (gLicence l k)&&ltLicence (gLicence l (k-1)) (gLicence l k))):=fun h=>by rw[upOk_pos h hlt,gLicence_eq hlt,gLicence_eq (show k-1<l.length by omega)]
   rw[gLicence_eq hlt] at s0 s1 s2 s3 s4 s5 s6 s7 s8 s9 s10 ks0 ks1
   generalize hA:gLicence l k=A at *
   have HGA:=Lib.hid hA
   generalize hP:gLicence l (k-1)=P at *
   clear hA hP hok
   have i1:(0:Int)≤(k:Int):=by omega
   have i2:(k:Int)<(l.length:Int):=by omega
   have yb:b<wr.heap.size:=by omega
   have HV:Hid (∀ W:World,Below wr.heap.size wr W→Calls Tryz.prog 154 #[.pointer (some ⟨b,off+k*11,none⟩)] W fun e w'=>e=.returned (.bool (licB A))∧Below W.heap.size W w'):=fun W hW=>l26Ok_any A b (off+k*11) W ((bat hW b _ yb).trans s0) ((bat hW b _ yb).trans s1) ((bat hW b _ yb).trans s2) ((bat hW b _ yb).trans s3) ((bat hW b _ yb).trans s4) ((bat hW b _ yb).trans s5) ((bat hW b _ yb).trans s6) ((bat hW b _ yb).trans s7) ((bat hW b _ yb).trans s8) ((bat hW b _ yb).trans s9) ((bat hW b _ yb).trans s10) ks0 ks1
   by_cases c1:licB A=true
   case neg =>
    replace c1:licB A=false:=Bool.eq_false_iff.2 c1
    have HF:Hid ((List.range l.length).all (okL l)=false):=HUN.out c1
    have oB:=overC (w0:=wr) (show b<wr.heap.size by omega)
    rw[c1] at HV
    go_wp2
    refine wp_region_over wr.heap.size wr (Below.refl _ _) (by kernel_rfl) (by kernel_rfl) ?_
    repeat (go_big_quiet_step ((go_at_call 154;exact over_left (Nat.le_refl _) (HV.out _ (over_below _ _ _)))))
    refine wpQuiet_nil ?_
    rintro _ ⟨X,rfl⟩
    have hX:=over_below wr.heap.size wr X
    clear oB
    generalize over wr.heap.size wr X=w2 at *
    have BF:=Lib.hid (HB.out.trans (hX.mono (by omega)))
    clear hX
    have HQ:Hid (holdB l=false):=by show _=_;unfold holdB;rw[HF.out];simp
    go_wp2
    go_ret
    exact⟨by rw[HQ.out];rfl,BF.out⟩
   have HM:Hid (licB A=true):=c1
   by_cases c3:0<k
   case neg =>
    have i8:decide (0<k)=false:=by simpa using c3
    have HF:Hid (upOk licB ltLicence l k=true):=HUZ.out (by omega) HM.out
    have oB:=overC (w0:=wr) (show b<wr.heap.size by omega)
    rw[c1] at HV
    go_wp2
    refine wp_region_over wr.heap.size wr (Below.refl _ _) (by kernel_rfl) (by kernel_rfl) ?_
    repeat (go_big_quiet_step ((go_at_call 154;exact over_left (Nat.le_refl _) (HV.out _ (over_below _ _ _)))))
    refine wpQuiet_nil ?_
    rintro _ ⟨X,rfl⟩
    have hX:=over_below wr.heap.size wr X
    clear oB
    generalize over wr.heap.size wr X=w2 at *
    have BF:=Lib.hid (HB.out.trans (hX.mono (by omega)))
    clear hX
    clear s0 s1 s2 s3 s4 s5 s6 s7 s8 s9 s10 yb i1 i2
    go_wp2
    go_loopw [4] (fun i wr=>∃ (m:Nat),m≤k∧i=.int .i64 m∧(∀ j,j<m→clashB A (gLicence l j)=false)∧Below w.heap.size w wr) (fun i wr=>k-(intOf i).toNat)
    case atStart=>exact⟨0,Nat.zero_le _,rfl,fun j hj=>absurd hj (by omega),BF.out⟩
    case round =>
     obtain⟨m,hm,rfl,hnc2,hb2⟩:=hrel
     have HN2:=Lib.hid hnc2
     have HB2:=Lib.hid hb2
     have zb2:=hb2.size
     clear hnc2 hb2
     by_cases hmk:m<k
     ·have hml:m<l.length:=by omega
      obtain⟨s0,s1,s2,s3,s4,s5,s6,s7,s8,s9,s10⟩:=HAT.out k hlt
      obtain⟨t0,t1,t2,t3,t4,t5,t6,t7,t8,t9,t10⟩:=HAT.out m hml
      rw[← bat HB2.out b _ hbw,gLicence_eq hlt] at s0 s1 s2 s3 s4 s5 s6 s7 s8 s9 s10
      rw[← bat HB2.out b _ hbw,gLicence_eq hml] at t0 t1 t2 t3 t4 t5 t6 t7 t8 t9 t10
      have HNM:Hid (clashB A (gLicence l m)=true→(l.take k).any (clashB A)=true):=fun h=>any_take_some (by omega) hmk h
      rw[HGA.out] at s0 s1 s2 s3 s4 s5 s6 s7 s8 s9 s10
      generalize hM:gLicence l m=M at *
      have j0:(0:Int)≤(k:Int):=by omega
      have j1:(k:Int)<(l.length:Int):=by omega
      have j2:(0:Int)≤(m:Int):=by omega
      have j3:(m:Int)<(l.length:Int):=by omega
      have j4:(m:Int)<(k:Int):=by omega
      have yb2:b<wr.heap.size:=by omega
      have HC:Hid (∀ W:World,Below wr.heap.size wr W→Calls Tryz.prog 155 #[.pointer (some ⟨b,off+k*11,none⟩),.pointer (some ⟨b,off+m*11,none⟩)] W fun e w'=>e=.returned (.bool (clashB A M))∧Below W.heap.size W w'):=fun W hW=>l26Clash_any A M b (off+k*11) b (off+m*11) W ((bat hW b _ yb2).trans s0) ((bat hW b _ yb2).trans s1) ((bat hW b _ yb2).trans s2) ((bat hW b _ yb2).trans s3) ((bat hW b _ yb2).trans s4) ((bat hW b _ yb2).trans s5) ((bat hW b _ yb2).trans s6) ((bat hW b _ yb2).trans s7) ((bat hW b _ yb2).trans s8) ((bat hW b _ yb2).trans s9) ((bat hW b _ yb2).trans s10) ((bat hW b _ yb2).trans t0) ((bat hW b _ yb2).trans t1) ((bat hW b _ yb2).trans t2) ((bat hW b _ yb2).trans t3) ((bat hW b _ yb2).trans t4) ((bat hW b _ yb2).trans t5) ((bat hW b _ yb2).trans t6) ((bat hW b _ yb2).trans t7) ((bat hW b _ yb2).trans t8) ((bat hW b _ yb2).trans t9) ((bat hW b _ yb2).trans t10)
      go_wp2
      by_cases c6:clashB A M=true
      case pos =>
       rw[c6] at HC
       refine wp_region_over wr.heap.size wr (Below.refl _ _) (by kernel_rfl) (by kernel_rfl) ?_
       repeat (go_big_quiet_step ((go_at_call 155;exact over_left (Nat.le_refl _) (HC.out _ (over_below _ _ _)))))
       refine wpQuiet_nil ?_
       rintro _ ⟨X,rfl⟩
       have hX:=over_below wr.heap.size wr X
       generalize over wr.heap.size wr X=w3 at *
       have BG:=Lib.hid (HB2.out.trans (hX.mono (by omega)))
       clear hX
       have HQ:Hid (holdB l=false):=by show _=_;unfold holdB;rw[allR_false hlt (by rw[HOK.out,HNM.out c6];simp)];simp
       go_wp2
       go_ret
       exact⟨by rw[HQ.out];rfl,BG.out⟩
      replace c6:clashB A M=false:=Bool.eq_false_iff.2 c6
      rw[c6] at HC
      refine wp_region_over wr.heap.size wr (Below.refl _ _) (by kernel_rfl) (by kernel_rfl) ?_
      repeat (go_big_quiet_step ((go_at_call 155;exact over_left (Nat.le_refl _) (HC.out _ (over_below _ _ _)))))
      refine wpQuiet_nil ?_
      rintro _ ⟨X,rfl⟩
      have hX:=over_below wr.heap.size wr X
      generalize over wr.heap.size wr X=w3 at *
      have BG:=Lib.hid (HB2.out.trans (hX.mono (by omega)))
      clear hX
      go_wp2
      go_roundw
      case rel=>exact⟨m+1,by omega,by go_num,fun j hj=>by
       by_cases e:j=m
       ·rw[e,hM];exact c6
       ·exact HN2.out j (by omega),BG.out⟩
      case measure=>simp[intOf];omega
     ·obtain rfl:m=k:=by omega
      have HG:Hid (okL l m=true):=by show _=_;rw[HOK.out,HF.out,any_take_none (by omega) HN2.out];rfl
      have j4:(m:Int)<1099511627776:=by omega
      go_wp2
      go_roundw
      case rel=>exact⟨m+1,by omega,by go_num,upTo_succ HN.out (HG.out),HB2.out⟩
      case measure=>simp[intOf];omega
   have i3:IntKind.i64.wrap ((k:Int)-1)=(k:Int)-1:=IntWalk.i64_in _ (by omega)
   have i4:(0:Int)≤(k:Int)-1:=by omega
   have i6:(k:Int)-1<(l.length:Int):=by omega
   have i7:(1:Int)≤(k:Int):=by omega
   have i8:decide (0<k)=true:=by simpa using c3
   have i5:((k:Int)-1).toNat=k-1:=by omega
   by_cases c4:ltS P.id A.id=true
   case neg =>
    replace c4:ltS P.id A.id=false:=Bool.eq_false_iff.2 c4
    have le4:Op.bytesLess P.id.toList A.id.toList=false:=c4
    have HF:Hid ((List.range l.length).all (okL l)=false):=allR_false hlt (by rw[HOK.out,HUP.out c3,show ltLicence P A=false from c4];simp)
    have fp:=SP.out c3
    have oB:=overC (w0:=wr) (show b<wr.heap.size by omega)
    rw[c1] at HV
    go_wp2
    refine wp_region_over wr.heap.size wr (Below.refl _ _) (by kernel_rfl) (by kernel_rfl) ?_
    repeat (go_big_quiet_step ((go_at_call 154;exact over_left (Nat.le_refl _) (HV.out _ (over_below _ _ _)))))
    refine wpQuiet_nil ?_
    rintro _ ⟨X,rfl⟩
    have hX:=over_below wr.heap.size wr X
    clear oB
    generalize over wr.heap.size wr X=w2 at *
    have BF:=Lib.hid (HB.out.trans (hX.mono (by omega)))
    clear hX
    clear i3 i5
    have HQ:Hid (holdB l=false):=by show _=_;unfold holdB;rw[HF.out];simp
    go_wp2
    go_ret
    exact⟨by rw[HQ.out];rfl,BF.out⟩
   have le4:Op.bytesLess P.id.toList A.id.toList=true:=c4
   have HF:Hid (upOk licB ltLicence l k=true):=by show _=_;rw[HUP.out c3,Bool.and_eq_true];exact⟨HM.out,c4⟩
   have fp:=SP.out c3
   have oB:=overC (w0:=wr) (show b<wr.heap.size by omega)
   rw[c1] at HV
   go_wp2
   refine wp_region_over wr.heap.size wr (Below.refl _ _) (by kernel_rfl) (by kernel_rfl) ?_
   repeat (go_big_quiet_step ((go_at_call 154;exact over_left (Nat.le_refl _) (HV.out _ (over_below _ _ _)))))
   refine wpQuiet_nil ?_
   rintro _ ⟨X,rfl⟩
   have hX:=over_below wr.heap.size wr X
   clear oB
   generalize over wr.heap.size wr X=w2 at *
   have BF:=Lib.hid (HB.out.trans (hX.mono (by omega)))
   clear hX
   clear i3 i5
   clear s0 s1 s2 s3 s4 s5 s6 s7 s8 s9 s10 yb i1 i2
   go_wp2
   go_loopw [4] (fun i wr=>∃ (m:Nat),m≤k∧i=.int .i64 m∧(∀ j,j<m→clashB A (gLicence l j)=false)∧Below w.heap.size w wr) (fun i wr=>k-(intOf i).toNat)
   case atStart=>exact⟨0,Nat.zero_le _,rfl,fun j hj=>absurd hj (by omega),BF.out⟩
   case round =>
    obtain⟨m,hm,rfl,hnc2,hb2⟩:=hrel
    have HN2:=Lib.hid hnc2
    have HB2:=Lib.hid hb2
    have zb2:=hb2.size
    clear hnc2 hb2
    by_cases hmk:m<k
    ·have hml:m<l.length:=by omega
     obtain⟨s0,s1,s2,s3,s4,s5,s6,s7,s8,s9,s10⟩:=HAT.out k hlt
     obtain⟨t0,t1,t2,t3,t4,t5,t6,t7,t8,t9,t10⟩:=HAT.out m hml
     rw[← bat HB2.out b _ hbw,gLicence_eq hlt] at s0 s1 s2 s3 s4 s5 s6 s7 s8 s9 s10
     rw[← bat HB2.out b _ hbw,gLicence_eq hml] at t0 t1 t2 t3 t4 t5 t6 t7 t8 t9 t10
     have HNM:Hid (clashB A (gLicence l m)=true→(l.take k).any (clashB A)=true):=fun h=>any_take_some (by omega) hmk h
     rw[HGA.out] at s0 s1 s2 s3 s4 s5 s6 s7 s8 s9 s10
     generalize hM:gLicence l m=M at *
     have j0:(0:Int)≤(k:Int):=by omega
     have j1:(k:Int)<(l.length:Int):=by omega
     have j2:(0:Int)≤(m:Int):=by omega
     have j3:(m:Int)<(l.length:Int):=by omega
     have j4:(m:Int)<(k:Int):=by omega
     have yb2:b<wr.heap.size:=by omega
     have HC:Hid (∀ W:World,Below wr.heap.size wr W→Calls Tryz.prog 155 #[.pointer (some ⟨b,off+k*11,none⟩),.pointer (some ⟨b,off+m*11,none⟩)] W fun e w'=>e=.returned (.bool (clashB A M))∧Below W.heap.size W w'):=fun W hW=>l26Clash_any A M b (off+k*11) b (off+m*11) W ((bat hW b _ yb2).trans s0) ((bat hW b _ yb2).trans s1) ((bat hW b _ yb2).trans s2) ((bat hW b _ yb2).trans s3) ((bat hW b _ yb2).trans s4) ((bat hW b _ yb2).trans s5) ((bat hW b _ yb2).trans s6) ((bat hW b _ yb2).trans s7) ((bat hW b _ yb2).trans s8) ((bat hW b _ yb2).trans s9) ((bat hW b _ yb2).trans s10) ((bat hW b _ yb2).trans t0) ((bat hW b _ yb2).trans t1) ((bat hW b _ yb2).trans t2) ((bat hW b _ yb2).trans t3) ((bat hW b _ yb2).trans t4) ((bat hW b _ yb2).trans t5) ((bat hW b _ yb2).trans t6) ((bat hW b _ yb2).trans t7) ((bat hW b _ yb2).trans t8) ((bat hW b _ yb2).trans t9) ((bat hW b _ yb2).trans t10)
     go_wp2
     by_cases c6:clashB A M=true
     case pos =>
      rw[c6] at HC
      refine wp_region_over wr.heap.size wr (Below.refl _ _) (by kernel_rfl) (by kernel_rfl) ?_
      repeat (go_big_quiet_step ((go_at_call 155;exact over_left (Nat.le_refl _) (HC.out _ (over_below _ _ _)))))
      refine wpQuiet_nil ?_
      rintro _ ⟨X,rfl⟩
      have hX:=over_below wr.heap.size wr X
      generalize over wr.heap.size wr X=w3 at *
      have BG:=Lib.hid (HB2.out.trans (hX.mono (by omega)))
      clear hX
      have HQ:Hid (holdB l=false):=by show _=_;unfold holdB;rw[allR_false hlt (by rw[HOK.out,HNM.out c6];simp)];simp
      go_wp2
      go_ret
      exact⟨by rw[HQ.out];rfl,BG.out⟩
     replace c6:clashB A M=false:=Bool.eq_false_iff.2 c6
     rw[c6] at HC
     refine wp_region_over wr.heap.size wr (Below.refl _ _) (by kernel_rfl) (by kernel_rfl) ?_
     repeat (go_big_quiet_step ((go_at_call 155;exact over_left (Nat.le_refl _) (HC.out _ (over_below _ _ _)))))
     refine wpQuiet_nil ?_
     rintro _ ⟨X,rfl⟩
     have hX:=over_below wr.heap.size wr X
     generalize over wr.heap.size wr X=w3 at *
     have BG:=Lib.hid (HB2.out.trans (hX.mono (by omega)))
     clear hX
     go_wp2
     go_roundw
     case rel=>exact⟨m+1,by omega,by go_num,fun j hj=>by
      by_cases e:j=m
      ·rw[e,hM];exact c6
      ·exact HN2.out j (by omega),BG.out⟩
     case measure=>simp[intOf];omega
    ·obtain rfl:m=k:=by omega
     have HG:Hid (okL l m=true):=by show _=_;rw[HOK.out,HF.out,any_take_none (by omega) HN2.out];rfl
     have j4:(m:Int)<1099511627776:=by omega
     go_wp2
     go_roundw
     case rel=>exact⟨m+1,by omega,by go_num,upTo_succ HN.out (HG.out),HB2.out⟩
     case measure=>simp[intOf];omega
  ·obtain rfl:k=l.length:=by omega
   have HR:Hid ((List.range l.length).all (okL l)=true):=allR_true HN.out
   by_cases hlim:l.length≤24
   ·have hlj:(l.length:Int)≤24:=by omega
    have HQ:Hid (holdB l=true):=by show _=_;unfold holdB;rw[HR.out,decide_eq_true hlim];rfl
    go_wp2
    go_ret
    exact⟨by rw[HQ.out];rfl,HB.out⟩
   ·have hlj:24<l.length:=by omega
    have hlk:(24:Int)<(l.length:Int):=by omega
    have HQ:Hid (holdB l=false):=by show _=_;unfold holdB;rw[HR.out,decide_eq_false hlim];rfl
    have HZ:Hid (decide ((l.length:Int)≤24)=false):=decide_eq_false (by omega)
    go_wp2
    go_ret
    exact⟨by rw[HQ.out,← HZ.out];rfl,HB.out⟩
end Go.Proofs.YtjfmkmcefnidcaaGreat
