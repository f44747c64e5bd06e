/- Contracts: AddSite of the reference. Conditions: bounded lengths. -/
import Derived.Test.YtpakghepnahooaaGreatDoorNet9Q
import Derived.Test.YtpakghepnahooaaGreatDoorPos
import Derived.Test.YtpakghepnahooaaGreatDoorInsSector
set_option linter.unusedVariables false
set_option linter.unusedSimpArgs false
namespace Go.Proofs.YtpakghepnahooaaGreatDoor
open Go.RowKit
theorem Q2m {p:Prop} (h:p:=by have h:=blkC (v:=IQ x.holder) KX_1.out 1 rfl;simpa using h):p:=h
theorem Q2n {p:Prop} (h:p:=by have h:=blkC (v:=J x.place.x) KX_1.out 2 rfl;simpa using h):p:=h
theorem Q2o {p:Prop} (h:p:=by have h:=blkC (v:=J x.place.y) KX_1.out 3 rfl;simpa using h):p:=h
theorem Q2u {p:Prop} (h:p:=by have h:=blkC (v:=IQ x.name) KX_1.out 0 rfl;simpa using h):p:=h
theorem Q31 {p:Prop} (h:p:=by first|exact Nat.le_refl _|(simp;done)|(simp<;>omega)):p:=h
theorem Q35 {p:Prop} (h:p:=by simp[results,Tryz.results91,go_sem, *]):p:=h
theorem Q36 {p:Prop} (h:p:=by show w.heap.size+2<w.heap.size+3;omega):p:=h
theorem Q3d {p:Prop} (h:p:=by show w.heap.size≤w.heap.size+2;omega):p:=h
theorem Q3e {p:Prop} (h:p:=by show w.heap.size+2<V.heap.size;omega):p:=h
theorem Q3o {p:Prop} (h:p:=by have:=BB_0.out.size;omega):p:=h
theorem Q3p {p:Prop} (h:p:=by have:=BB_2.out.size;omega):p:=h
theorem Q46 {p:Prop} (h:p:=by simp[hy]):p:=h
theorem Q0e {p:Prop} (h:p:=by
 first|exact⟨none,0,none,0,none,0,none,0,[],rfl,BF.out,zb0 _,In.nil,SpB.nil,SpB.nil⟩|exact⟨none,0,none,0,none,0,none,0,rfl,BF.out,[],zb0 _,In.nil,SpB.nil,SpB.nil⟩):p:=h
theorem Q0y {p:Prop} (h:p:=by
 have hq:=zfa hp
 have HP:=IJ hp
 clear hp
 go_wp2
 refine zab wr.heap.size wr (Below.refl _ _) JI JI ?_
 repeat (go_big_quiet_step (fail))
 refine wpQuiet_nil ?_
 rintro _ ⟨X,rfl⟩
 have hX:=zaa wr.heap.size wr X
 clear oB oX oN hq g1 g2 i4 i5 s0 fX fN bW
 generalize over wr.heap.size wr X=w2 at *
 go_wp2
 go_roundw
 case rel=>exact⟨m-1,II,by congr 1;omega,fun j h h2=>by
   by_cases e:j=m-1
   ·subst e;exact HP.out
   ·exact HGT.out j h II,HB.out.trans (hX.mono II)⟩
 case measure=>simp[intOf];omega):p:=h
theorem Q1o {p:Prop} (h:p:=by
 generalize over wr.heap.size wr X=V at *
 have hbV:OI Y Y V:=HB.out.trans (hX.mono II)
 have zV:Y.heap.size≤V.heap.size:=hbV.size
 clear HGT HB hX
 clear HP EA i1 i3 i6 hbl yB yX):p:=h
theorem Q1u {p:Prop} (h:p:=by
 generalize over wr.heap.size wr X=V at *
 have hbV:OI Y Y V:=HB.out.trans (hX.mono II)
 have zV:Y.heap.size≤V.heap.size:=hbV.size
 clear HGT HB hX):p:=h
def za0 (n:DNetwork) (x:DSite):DNetwork × Int:=if netB n=true then (if zbk x=true then (if zby n.sites x.name = -1 then (if n.sites.length=12 then (⟨[],[],[],[]⟩,5) else ({ n with sites:=zcn n.sites x (zeu DSite.name n.sites x.name) },0)) else (⟨[],[],[],[]⟩,4)) else (⟨[],[],[],[]⟩,1)) else (⟨[],[],[],[]⟩,1)
section
variable {n:DNetwork} {x:DSite}
theorem addSiteR_bad (h:netB n=false):za0 n x=(⟨[],[],[],[]⟩,1):=by unfold za0;rw[if_neg (by simp[h])]
theorem addSiteR_bad2 (h:netB n=true) (h2:zbk x=false):za0 n x=(⟨[],[],[],[]⟩,1):=by unfold za0;rw[if_pos h,if_neg (by simp[h2])]
theorem addSiteR_there (h:netB n=true) (h2:zbk x=true) {k:Nat} (hi:zby n.sites x.name=(k:Int)):za0 n x=(⟨[],[],[],[]⟩,4):=by unfold za0;rw[if_pos h,if_pos h2,if_neg II]
theorem addSiteR_full (h:netB n=true) (h2:zbk x=true) (hi:zby n.sites x.name = -1) (hl:n.sites.length=12):za0 n x=(⟨[],[],[],[]⟩,5):=by unfold za0;rw[if_pos h,if_pos h2,if_pos hi,if_pos hl]
theorem addSiteR_ok (h:netB n=true) (h2:zbk x=true) (hi:zby n.sites x.name = -1) (hl:¬ n.sites.length=12):za0 n x=({ n with sites:=zcn n.sites x (zeu DSite.name n.sites x.name) },0):=by unfold za0;rw[if_pos h,if_pos h2,if_pos hi,if_neg hl]
end
end Go.Proofs.YtpakghepnahooaaGreatDoor
namespace Go.Proofs.YtpakghepnahooaaGreatDoor
open Go.RowKit
def zbb (n:DNetwork) (x:DSector):DNetwork × Int:=if netB n=true then (if zag x=true then (if zan n x=true then (if zay n.sectors x.name = -1 then (if n.sectors.length=24 then (⟨[],[],[],[]⟩,5) else ({ n with sectors:=zcn n.sectors x (zeu DSector.name n.sectors x.name) },0)) else (⟨[],[],[],[]⟩,4)) else (⟨[],[],[],[]⟩,3)) else (⟨[],[],[],[]⟩,1)) else (⟨[],[],[],[]⟩,1)
section
variable {n:DNetwork} {x:DSector}
theorem addSecR_bad (h:netB n=false):zbb n x=(⟨[],[],[],[]⟩,1):=by unfold zbb;rw[if_neg (by simp[h])]
theorem addSecR_bad2 (h:netB n=true) (h2:zag x=false):zbb n x=(⟨[],[],[],[]⟩,1):=by unfold zbb;rw[if_pos h,if_neg (by simp[h2])]
theorem addSecR_parts (h:netB n=true) (h2:zag x=true) (hr:zan n x=false):zbb n x=(⟨[],[],[],[]⟩,3):=by unfold zbb;rw[if_pos h,if_pos h2,if_neg (by simp[hr])]
theorem addSecR_there (h:netB n=true) (h2:zag x=true) (hr:zan n x=true) {k:Nat} (hi:zay n.sectors x.name=(k:Int)):zbb n x=(⟨[],[],[],[]⟩,4):=by unfold zbb;rw[if_pos h,if_pos h2,if_pos hr,if_neg II]
theorem addSecR_full (h:netB n=true) (h2:zag x=true) (hr:zan n x=true) (hi:zay n.sectors x.name = -1) (hl:n.sectors.length=24):zbb n x=(⟨[],[],[],[]⟩,5):=by unfold zbb;rw[if_pos h,if_pos h2,if_pos hr,if_pos hi,if_pos hl]
theorem addSecR_ok (h:netB n=true) (h2:zag x=true) (hr:zan n x=true) (hi:zay n.sectors x.name = -1) (hl:¬ n.sectors.length=24):zbb n x=({ n with sectors:=zcn n.sectors x (zeu DSector.name n.sectors x.name) },0):=by unfold zbb;rw[if_pos h,if_pos h2,if_pos hr,if_pos hi,if_neg hl]
end
end Go.Proofs.YtpakghepnahooaaGreatDoor
namespace Go.Proofs.YtpakghepnahooaaGreatDoor
open Go.RowKit
theorem iz_len {α:Type} (l:List α) (x:α) {k:Nat} (h:k≤l.length):(zcn l x k).length=l.length+1:=by unfold zcn;simp<;>omega
theorem iz_lo {α:Type} {l:List α} {x:α} {k i:Nat} (hk:k≤l.length) (h:i<k) (hi:i<(zcn l x k).length):(zcn l x k)[i]=l[i]'II:=by
 simp only[zcn];rw[List.getElem_append_left Q3m,List.getElem_take]
theorem iz_at {α:Type} {l:List α} {x:α} {k:Nat} (hk:k≤l.length) (hi:k<(zcn l x k).length):(zcn l x k)[k]=x:=by
 simp only[zcn];rw[List.getElem_append_right Q3m];simp only[List.length_take,Nat.min_eq_left hk,Nat.sub_self,List.getElem_cons_zero]
theorem iz_hi {α:Type} {l:List α} {x:α} {k i:Nat} (hk:k≤l.length) (h:k≤i) (hi:i+1<(zcn l x k).length):(zcn l x k)[i+1]=l[i]'(by rw[iz_len l x hk] at hi;omega):=by
 simp only[zcn];rw[List.getElem_append_right Q3m];simp only[List.length_take,Nat.min_eq_left hk,show i+1-k=(i-k)+1 by omega,List.getElem_cons_succ,List.getElem_drop]
 congr 1
 omega
theorem iz_any {α:Type} (p:α→Bool) (l:List α) (x:α) (k:Nat):(zcn l x k).any p=(l.any p || p x):=by
 unfold zcn;rw[List.any_append,List.any_cons];have h:l.any p=((l.take k).any p || (l.drop k).any p):=by rw[← List.any_append,List.take_append_drop]
 rw[h]
 cases (l.take k).any p<;>cases (l.drop k).any p<;>cases p x<;>rfl
section
variable {α:Type} {f:α→ByteArray} {l:List α} {nm:ByteArray}
theorem pos_fits (hs:∀ i (h:i+1<l.length),ltS (f (l[i]'II)) (f l[i+1])=true) (hno:∀ i (h:i<l.length),eqS (f l[i]) nm=false) :
  ∃ k,zeu f l nm=k∧k≤l.length∧(∀ h:0<k∧k≤l.length,ltS (f (l[k-1]'II)) nm=true)∧∀ h:k<l.length,ltS nm (f l[k])=true:=by
 obtain⟨q,hq⟩:∃ q,q=l.findIdx (fun x=>!ltS (f x) nm):=⟨_,rfl⟩
 have hle:q≤l.length:=by rw[hq];exact List.findIdx_le_length
 have hlow:∀ j (hj:j<l.length),j<q→ltS (f l[j]) nm=true:=fun j hj hjq=>by
  have:=List.not_of_lt_findIdx (p:=fun x:α=>!ltS (f x) nm) (xs:=l) (i:=j) (by rw[← hq];exact hjq)
  simpa using this
 have hat:∀ hj:q<l.length,ltS (f l[q]) nm=false:=fun hj=>by
  have:=List.findIdx_getElem (p:=fun x:α=>!ltS (f x) nm) (xs:=l) (w:=by rw[← hq];exact hj);simp only[← hq] at this
  simpa using this
 refine⟨q,pos_of hs hle (fun h0=>hlow _ _ II) hat,hle,fun h=>hlow _ _ II,fun h=>ltS_of_not (hat h) ?_⟩
 cases he:eqS nm (f l[q]) with
 | false=>rfl
 | true =>
  have:=hno q h;rw[eqS_iff.2 (eqS_iff.1 he).symm] at this
  cases this
theorem ins_row {ok:α→Bool} {x:α} (hl:zaz ok (fun p q=>ltS (f p) (f q)) l=true) (hx:ok x=true) (hno:l.any (fun y=>eqS (f y) (f x))=false):zaz ok (fun p q=>ltS (f p) (f q)) (zcn l x (zeu f l (f x)))=true:=by
 obtain⟨k,e,hk,hlo,hhi⟩:=pos_fits (f:=f) (l:=l) (nm:=f x) (fun i hi=>ze5 hl hi) (none_eqS hno);rw[e];have hlen:=iz_len l x hk;have hok:∀ i (hi:i<(zcn l x k).length),ok (zcn l x k)[i]=true:=by
  intro i hi
  rcases Nat.lt_trichotomy i k with e|e|e
  ·rw[iz_lo hk e hi];exact zd3 hl _
  ·subst e;rw[iz_at hk hi];exact hx
  ·obtain⟨m,rfl⟩:∃ m,i=m+1:=⟨i-1,II⟩
   rw[iz_hi hk II hi];exact zd3 hl _
 refine zce (fun j hj=>?_)
 by_cases h0:j=0
 ·subst h0;rw[zci hj];exact hok 0 hj
 obtain⟨i,rfl⟩:∃ i,j=i+1:=⟨j-1,II⟩
 rw[zcj II hj,Bool.and_eq_true];refine⟨hok _ hj,?_⟩;show ltS (f ((zcn l x k)[i+1-1]'II)) (f (zcn l x k)[i+1])=true
 simp only[Nat.add_sub_cancel]
 rcases Nat.lt_trichotomy (i+1) k with e|e|e
 ·rw[iz_lo hk e hj,iz_lo hk II II]
  exact ze5 hl II
 ·subst e
  rw[iz_at hk hj,iz_lo hk II II];exact hlo ⟨II,hk⟩
 ·rw[iz_hi hk II hj]
  by_cases e2:i=k
  ·subst e2
   rw[iz_at hk II];exact hhi II
  ·obtain⟨m,rfl⟩:∃ m,i=m+1:=⟨i-1,II⟩
   rw[iz_hi hk II II];exact ze5 hl II
theorem rowOk_imp {ok ok':α→Bool} {rel:α→α→Bool} (h:∀ x,ok x=true→ok' x=true) (hl:zaz ok rel l=true):zaz ok' rel l=true:=by
 refine zce (fun j hj=>?_)
 by_cases h0:j=0
 ·subst h0;rw[zci hj];exact h _ (zd3 hl hj)
 ·rw[zcj II hj,h _ (zd3 hl hj),Bool.true_and]
  have:=rowOk_at hl hj;rw[zcj II hj,Bool.and_eq_true] at this;exact this.2
theorem idx_none {p:α→Bool} (h:zbh p l = -1):l.any p=false:=by
 have:=zeb p l;rw[h] at this;rw[← this]
 rfl
end
theorem addSite_parts {n:DNetwork} {x:DSite} (h:(za0 n x).2=0):netB n=true∧zbk x=true∧n.sites.any (fun y=>eqS y.name x.name)=false∧n.sites.length≠12∧(za0 n x).1 = { n with sites:=zcn n.sites x (zeu DSite.name n.sites x.name) }:=by
 unfold za0 at h ⊢
 by_cases h1:netB n=true
 case neg=>rw[if_neg h1] at h;cases h
 by_cases h2:zbk x=true
 case neg=>rw[if_pos h1,if_neg h2] at h;cases h
 by_cases h3:zby n.sites x.name = -1
 case neg=>rw[if_pos h1,if_pos h2,if_neg h3] at h;cases h
 by_cases h4:n.sites.length=12
 ·rw[if_pos h1,if_pos h2,if_pos h3,if_pos h4] at h;cases h
 rw[if_pos h1,if_pos h2,if_pos h3,if_neg h4];exact⟨h1,h2,idx_none h3,h4,rfl⟩
theorem addSec_parts {n:DNetwork} {x:DSector} (h:(zbb n x).2=0):netB n=true∧zag x=true∧zan n x=true∧n.sectors.any (fun y=>eqS y.name x.name)=false∧n.sectors.length≠24∧(zbb n x).1 = { n with sectors:=zcn n.sectors x (zeu DSector.name n.sectors x.name) }:=by
 unfold zbb at h ⊢
 by_cases h1:netB n=true
 case neg=>rw[if_neg h1] at h;cases h
 by_cases h2:zag x=true
 case neg=>rw[if_pos h1,if_neg h2] at h;cases h
 by_cases h5:zan n x=true
 case neg=>rw[if_pos h1,if_pos h2,if_neg h5] at h;cases h
 by_cases h3:zay n.sectors x.name = -1
 case neg=>rw[if_pos h1,if_pos h2,if_pos h5,if_neg h3] at h;cases h
 by_cases h4:n.sectors.length=24
 ·rw[if_pos h1,if_pos h2,if_pos h5,if_pos h3,if_pos h4] at h;cases h
 rw[if_pos h1,if_pos h2,if_pos h5,if_pos h3,if_neg h4];exact⟨h1,h2,h5,idx_none h3,h4,rfl⟩
theorem posOf_le {α:Type} (f:α→ByteArray) (l:List α) (nm:ByteArray):zeu f l nm≤l.length:=List.countP_le_length
theorem addSite_net {n:DNetwork} {x:DSite} (h:(za0 n x).2=0):netB (za0 n x).1=true:=by
 obtain⟨h1,h2,h3,h4,e⟩:=addSite_parts h;rw[e];unfold netB at h1 ⊢;simp only[Bool.and_eq_true,decide_eq_true_eq] at h1 ⊢;obtain⟨a,b,c,d,e1,e2,e3,e4⟩:=h1;refine⟨by rw[iz_len _ _ (posOf_le _ _ _)];omega,b,c,d,ins_row (f:=DSite.name) e1 h2 h3,e2,e3,rowOk_imp (fun y hy=>?_) e4⟩;rw[Bool.and_eq_true] at hy ⊢;refine⟨hy.1,?_⟩;have hy2:=hy.2;unfold zan zby at hy2 ⊢;rw[zeb] at hy2 ⊢;simp only[Bool.and_eq_true] at hy2 ⊢;refine⟨?_,hy2.2⟩;show (zcn _ _ _).any _=true
 rw[iz_any,hy2.1,Bool.true_or]
theorem addSec_net {n:DNetwork} {x:DSector} (h:(zbb n x).2=0):netB (zbb n x).1=true:=by
 obtain⟨h1,h2,h5,h3,h4,e⟩:=addSec_parts h;rw[e];unfold netB at h1 ⊢;simp only[Bool.and_eq_true,decide_eq_true_eq] at h1 ⊢;obtain⟨a,b,c,d,e1,e2,e3,e4⟩:=h1;exact⟨a,by rw[iz_len _ _ (posOf_le _ _ _)];omega,c,d,e1,e2,e3,ins_row (f:=DSector.name) (ok:=fun y=>zag y&&zan n y) e4 (by rw[h2,h5];rfl) h3⟩
theorem zeo {α:Type} (g:α→List Tr) (c:Nat) (l:List α) (h:∀ x ∈ l,sizL (g x)≤c):sizL (l.flatMap g)≤l.length*c:=by
 induction l with
 | nil=>simp[sizL]
 | cons y l ih =>
  rw[List.flatMap_cons,sizL_append,List.length_cons,Nat.add_mul,Nat.one_mul];have h1:=ih (fun x hx=>h x (by simp[hx]));have h2:=h y Q4a;omega
theorem zbw {s:ByteArray} (h:za8 s=true):s.size≤10:=by
 unfold za8 at h;simp only[Bool.and_eq_true,decide_eq_true_eq] at h;exact h.2.1
theorem zco {n a b:Int} (h:inB n a b=true) (ha:-1000000000≤a) (hb:b≤1000000000):I64 n:=by
 unfold inB at h;simp only[Bool.and_eq_true,decide_eq_true_eq] at h;exact⟨II,II⟩
theorem modes_siz (l:List DMode):sizL (l.flatMap DMode.tr)=0:=by
 have:=zeo DMode.tr 0 l (fun x _=>by simp[DMode.tr,sizL,siz,intT]);omega
structure NetW (a b:Nat) (n:DNetwork):Prop where
 l0:n.sites.length≤a
 l1:n.sectors.length≤b
 l2:n.antennas.length≤8
 l3:n.radios.length≤8
 s0:∀ x ∈ n.sites,x.ok∧sizL x.tr≤100
 s1:∀ x ∈ n.sectors,x.ok∧sizL x.tr≤100
 s2:∀ x ∈ n.antennas,x.ok∧sizL x.tr≤200
 s3:∀ x ∈ n.radios,x.ok∧sizL x.tr≤200
theorem NetW.mono {a b a' b':Nat} {n:DNetwork} (h:NetW a b n) (ha:a≤a') (hb:b≤b'):NetW a' b' n:=⟨Nat.le_trans h.l0 ha,Nat.le_trans h.l1 hb,h.l2,h.l3,h.s0,h.s1,h.s2,h.s3⟩
theorem NetW.small {a b:Nat} {n:DNetwork} (h:NetW a b n) (ha:a≤100) (hb:b≤100):n.ok∧sizL n.tr≤1048576:=by
 refine⟨⟨fun y hy=>(h.s0 y hy).1,fun y hy=>(h.s1 y hy).1,fun y hy=>(h.s2 y hy).1,fun y hy=>(h.s3 y hy).1⟩,?_⟩;rw[DNetwork.siz_tr,DSite.siz_s,DSector.siz_s,DAntenna.siz_s,DRadio.siz_s];have t1:=zeo DSite.tr 100 n.sites (fun x hx=>(h.s0 x hx).2);have t4:=zeo DSector.tr 100 n.sectors (fun x hx=>(h.s1 x hx).2);have t2:=zeo DAntenna.tr 200 n.antennas (fun x hx=>(h.s2 x hx).2);have t3:=zeo DRadio.tr 200 n.radios (fun x hx=>(h.s3 x hx).2);have:=h.l0;have:=h.l1;have:=h.l2;have:=h.l3;omega
theorem zd6 {n:DNetwork} (h:netB n=true):NetW 12 24 n:=by
 unfold netB at h;simp only[Bool.and_eq_true,decide_eq_true_eq] at h;obtain⟨a,b,c,d,e1,e2,e3,e4⟩:=h;have m1:∀ x ∈ n.sites,zbk x=true:=fun x hx=>rowOk_mem e1 hx
 have m2:∀ x ∈ n.antennas,antB x=true:=fun x hx=>rowOk_mem e2 hx
 have m3:∀ x ∈ n.radios,radB x=true:=fun x hx=>rowOk_mem e3 hx
 have m4:∀ x ∈ n.sectors,zag x=true:=fun x hx=>by
  have:=rowOk_mem e4 hx;rw[Bool.and_eq_true] at this;exact this.1
 have s1:∀ x ∈ n.sites,x.ok∧sizL x.tr≤100:=fun x hx=>by
  have:=m1 x hx;unfold zbk zc1 at this;simp only[Bool.and_eq_true] at this;obtain⟨p1,p2,p3,p4⟩:=this;have q1:=zbw p1;have q2:=zbw p2;exact⟨⟨by unfold maxLen;omega,by unfold maxLen;omega,⟨zco p3 II II,zco p4 II II⟩⟩,by simp[DSite.tr,DPoint.tr,sizL,siz,strT,intT];omega⟩
 have s4:∀ x ∈ n.sectors,x.ok∧sizL x.tr≤100:=fun x hx=>by
  have:=m4 x hx;unfold zag at this;simp only[Bool.and_eq_true] at this;obtain⟨p1,p2,p3,p4,p5,p6,p7,p8,p9⟩:=this;have q1:=zbw p1;have q2:=zbw p2;have q3:=zbw p3;have q4:=zbw p4;have q5:=zbw p5;exact⟨⟨by unfold maxLen;omega,by unfold maxLen;omega,by unfold maxLen;omega,by unfold maxLen;omega,by unfold maxLen;omega,zco p6 II II,zco p7 II II,zco p8 II II,zco p9 II II⟩,by simp[DSector.tr,sizL,siz,strT,intT];omega⟩
 have s2:∀ x ∈ n.antennas,x.ok∧sizL x.tr≤200:=fun x hx=>by
  have:=m2 x hx;unfold antB at this;simp only[Bool.and_eq_true,beq_iff_eq,List.all_eq_true] at this;obtain⟨p1,p2,p3,p4,p5,p6,_,_⟩:=this;have q1:=zbw p1;refine⟨⟨by unfold maxLen;omega,zco p2 II II,fun y hy=>zco (p5 y hy) II II,fun y hy=>zco (p6 y hy) II II⟩,?_⟩;simp only[DAntenna.tr,sizL,zdb];simp[siz,strT,intT];omega
 have s3:∀ x ∈ n.radios,x.ok∧sizL x.tr≤200:=fun x hx=>by
  have:=m3 x hx;unfold radB at this;simp only[Bool.and_eq_true,decide_eq_true_eq] at this;obtain⟨p1,p2,p3,p4,p5,_,p7,p8⟩:=this;have q1:=zbw p1;refine⟨⟨by unfold maxLen;omega,zco p2 II II,zco p3 II II,zco p4 II II,zco p5 II II,fun y hy=>?_⟩,?_⟩
  ·have:=rowOk_mem p8 hy
   unfold zcm at this;rw[Bool.and_eq_true] at this;exact⟨zco this.1 II II,zco this.2 II II⟩
  ·simp only[DRadio.tr,sizL]
   rw[DMode.siz_s,modes_siz];simp[siz,strT,intT];omega
 exact⟨a,b,c,d,s1,s4,s2,s3⟩
theorem netB_small {n:DNetwork} (h:netB n=true):n.ok∧sizL n.tr≤1048576∧n.sites.length≤12∧n.sectors.length≤24∧n.antennas.length≤8∧n.radios.length≤8 :=
 have w:=zd6 h
 ⟨(w.small II II).1,(w.small II II).2,w.l0,w.l1,w.l2,w.l3⟩
end Go.Proofs.YtpakghepnahooaaGreatDoor
namespace Go.Proofs.YtpakghepnahooaaGreatDoor
open Go.RowKit
set_option maxHeartbeats 8000000
set_option maxRecDepth 100000
theorem sAddSite_sp (n:DNetwork) (x:DSite) (vn0 vn1 vn2 vn3:Value) (w:World) (rn0:Rd w w (DSite.sT n.sites) vn0) (rn1:Rd w w (DSector.sT n.sectors) vn1) (rn2:Rd w w (DAntenna.sT n.antennas) vn2) (rn3:Rd w w (DRadio.sT n.radios) vn3) (hs_n:sizL n.tr≤1048576) (hk_n:n.ok) (hs_x:sizL x.tr≤1048576) (hk_x:x.ok) :
  Calls Tryz.prog 91 #[.agg #[vn0,vn1,vn2,vn3],.agg x] w (fun e w'=>∃ a0_0 c0_0 a0_1 c0_1 a0_2 c0_2 a0_3 c0_3 fp0,e=.returned (.tuple #[.agg #[IZ a0_0 (za0 n x).1.sites.length c0_0,IZ a0_1 (za0 n x).1.sectors.length c0_1,IZ a0_2 (za0 n x).1.antennas.length c0_2,IZ a0_3 (za0 n x).1.radios.length c0_3],J (za0 n x).2])∧OI w w w'∧OwnV w' (za0 n x).1.tr [IZ a0_0 (za0 n x).1.sites.length c0_0,IZ a0_1 (za0 n x).1.sectors.length c0_1,IZ a0_2 (za0 n x).1.antennas.length c0_2,IZ a0_3 (za0 n x).1.radios.length c0_3] fp0∧In w w'.heap.size fp0∧SpB w' w.heap.size w'.heap.size 119 4 (IZ a0_0 (za0 n x).1.sites.length c0_0) (za0 n x).1.sites.length∧SpB w' w.heap.size w'.heap.size 43 9 (IZ a0_1 (za0 n x).1.sectors.length c0_1) (za0 n x).1.sectors.length):=by
 have hq:=DNetwork.siz_tr n;rw[DSite.siz_s,DSector.siz_s,DAntenna.siz_s,DRadio.siz_s] at hq;obtain⟨A0,C0,e0,-,-,-⟩:=DSite.rd rn0;obtain⟨A1,C1,e1,-,-,-⟩:=DSector.rd rn1;obtain⟨A2,C2,e2,-,-,-⟩:=DAntenna.rd rn2;obtain⟨A3,C3,e3,-,-,-⟩:=DRadio.rd rn3;subst e0 e1 e2 e3;have R0:=IJ rn0;have R1:=IJ rn1;have R2:=IJ rn2;have R3:=IJ rn3;clear rn0 rn1 rn2 rn3;have hko:=hk_x
 by_cases hv:netB n=true
 case neg =>
  replace hv:netB n=false:=Bool.eq_false_iff.2 hv;have HE:=IJ (addSiteR_bad (x:=x) hv);have BB0_:OI w w (((w.alloc (.cells (n,A0,C0,A1,C1,A2,C2,A3,C3) 32)).alloc (.cells x 119)).alloc (.cells () 32)):=Below.alloc (Below.alloc (Below.alloc (Below.refl _ _) Q31 _) Q31 _) Q31 _;have zz0:w.heap.size+3≤(((w.alloc (.cells (n,A0,C0,A1,C1,A2,C2,A3,C3) 32)).alloc (.cells x 119)).alloc (.cells () 32)).heap.size:=by simp
  have k_N:(((w.alloc (.cells (n,A0,C0,A1,C1,A2,C2,A3,C3) 32)).alloc (.cells x 119)).alloc (.cells () 32)).heap[w.heap.size]? = some (.cells (n,A0,C0,A1,C1,A2,C2,A3,C3) 32 (0,0)):=by
   have h:=blkN w (n,A0,C0,A1,C1,A2,C2,A3,C3) 32;replace h:=blkA h Q3k (.cells x 119);replace h:=blkA h Q3k (.cells () 32);exact h
  have KN_0:=IJ k_N;have k_X:(((w.alloc (.cells (n,A0,C0,A1,C1,A2,C2,A3,C3) 32)).alloc (.cells x 119)).alloc (.cells () 32)).heap[w.heap.size+1]? = some (.cells x 119 (0,0)):=by
   have h:=blkN (w.alloc (.cells (n,A0,C0,A1,C1,A2,C2,A3,C3) 32)) x 119;rw[show (w.alloc (.cells (n,A0,C0,A1,C1,A2,C2,A3,C3) 32)).heap.size=w.heap.size+1 by simp] at h;replace h:=blkA h Q3k (.cells () 32);exact h
  have KX_0:=IJ k_X;have k_R:(((w.alloc (.cells (n,A0,C0,A1,C1,A2,C2,A3,C3) 32)).alloc (.cells x 119)).alloc (.cells () 32)).heap[w.heap.size+2]? = some (.cells () 32 (0,0)):=by
   have h:=blkN ((w.alloc (.cells (n,A0,C0,A1,C1,A2,C2,A3,C3) 32)).alloc (.cells x 119)) () 32;rw[show ((w.alloc (.cells (n,A0,C0,A1,C1,A2,C2,A3,C3) 32)).alloc (.cells x 119)).heap.size=w.heap.size+2 by simp] at h;exact h
  have KR_0:=IJ k_R;clear k_N k_X k_R;have BB_0:=IJ BB0_;clear BB0_;go_enter Tryz.func91,Tryz.ntmps91;go_upto_region 1 with (fail);generalize (((w.alloc (.cells (n,A0,C0,A1,C1,A2,C2,A3,C3) 32)).alloc (.cells x 119)).alloc (.cells () 32))=W0 at *;have fN0:=blkC (v:=IZ A0 n.sites.length C0) KN_0.out 0 rfl;have fN1:=blkC (v:=IZ A1 n.sectors.length C1) KN_0.out 1 rfl;have fN2:=blkC (v:=IZ A2 n.antennas.length C2) KN_0.out 2 rfl;have fN3:=blkC (v:=IZ A3 n.radios.length C3) KN_0.out 3 rfl;have fX0:=blkC (v:=IQ x.name) KX_0.out 0 rfl;have fX1:=blkC (v:=IQ x.holder) KX_0.out 1 rfl;have fX2:=blkC (v:=J x.place.x) KX_0.out 2 rfl;have fX3:=blkC (v:=J x.place.y) KX_0.out 3 rfl;have fR0:=blkC (v:=IZ none 0 0) KR_0.out 0 rfl;have fR1:=blkC (v:=IZ none 0 0) KR_0.out 1 rfl;have fR2:=blkC (v:=IZ none 0 0) KR_0.out 2 rfl;have fR3:=blkC (v:=IZ none 0 0) KR_0.out 3 rfl;go_wp2_with fail;refine (zc4 n _ _ _ _ w.heap.size _ ((R0.out.below BB_0.out).mono Q3o) ((R1.out.below BB_0.out).mono Q3o) ((R2.out.below BB_0.out).mono Q3o) ((R3.out.below BB_0.out).mono Q3o) II (blkC KN_0.out 0 rfl) (blkC KN_0.out 1 rfl) (blkC KN_0.out 2 rfl) (blkC KN_0.out 3 rfl) II hk_n).mono ?_;rintro e X1 ⟨rfl,hb⟩;clear fN0 fN1 fN2 fN3 fX0 fX1 fX2 fX3 fR0 fR1 fR2 fR3;have KN_1:=IJ (blkB KN_0.out hb II);have KX_1:=IJ (blkB KX_0.out hb II);have KR_1:=IJ (blkB KR_0.out hb II);have BB_1:=IJ (BB_0.out.trans (hb.mono II));have zz1:W0.heap.size≤X1.heap.size:=hb.size;clear KN_0 KX_0 KR_0 BB_0 hb;rw[hv];have fN0:=blkC (v:=IZ A0 n.sites.length C0) KN_1.out 0 rfl;have fN1:=blkC (v:=IZ A1 n.sectors.length C1) KN_1.out 1 rfl;have fN2:=blkC (v:=IZ A2 n.antennas.length C2) KN_1.out 2 rfl;have fN3:=blkC (v:=IZ A3 n.radios.length C3) KN_1.out 3 rfl;have fX0:=blkC (v:=IQ x.name) KX_1.out 0 rfl;have fX1:=blkC (v:=IQ x.holder) KX_1.out 1 rfl;have fX2:=blkC (v:=J x.place.x) KX_1.out 2 rfl;have fX3:=blkC (v:=J x.place.y) KX_1.out 3 rfl;have fR0:=blkC (v:=IZ none 0 0) KR_1.out 0 rfl;have fR1:=blkC (v:=IZ none 0 0) KR_1.out 1 rfl;have fR2:=blkC (v:=IZ none 0 0) KR_1.out 2 rfl;have fR3:=blkC (v:=IZ none 0 0) KR_1.out 3 rfl;have zR:=blkF KR_1.out;go_wp2;have BF:=IJ (((((BB_1.out).setCell (p:=⟨w.heap.size+2,0,none⟩) Q3d (IZ none 0 0)).setCell (p:=⟨w.heap.size+2,1,none⟩) Q3d (IZ none 0 0)).setCell (p:=⟨w.heap.size+2,2,none⟩) Q3d (IZ none 0 0)).setCell (p:=⟨w.heap.size+2,3,none⟩) Q3d (IZ none 0 0));refine bodyPost_ret (v:=.tuple #[.agg (),J 1]) Q35 rfl ?_;rw[HE.out]
  exact Q0e
 by_cases hx:zbk x=true
 case neg =>
  replace hx:zbk x=false:=Bool.eq_false_iff.2 hx;have HE:=IJ (addSiteR_bad2 hv hx);have BB0_:OI w w (((w.alloc (.cells (n,A0,C0,A1,C1,A2,C2,A3,C3) 32)).alloc (.cells x 119)).alloc (.cells () 32)):=Below.alloc (Below.alloc (Below.alloc (Below.refl _ _) Q31 _) Q31 _) Q31 _;have zz0:w.heap.size+3≤(((w.alloc (.cells (n,A0,C0,A1,C1,A2,C2,A3,C3) 32)).alloc (.cells x 119)).alloc (.cells () 32)).heap.size:=by simp
  have k_N:(((w.alloc (.cells (n,A0,C0,A1,C1,A2,C2,A3,C3) 32)).alloc (.cells x 119)).alloc (.cells () 32)).heap[w.heap.size]? = some (.cells (n,A0,C0,A1,C1,A2,C2,A3,C3) 32 (0,0)):=by
   have h:=blkN w (n,A0,C0,A1,C1,A2,C2,A3,C3) 32;replace h:=blkA h Q3k (.cells x 119);replace h:=blkA h Q3k (.cells () 32);exact h
  have KN_0:=IJ k_N;have k_X:(((w.alloc (.cells (n,A0,C0,A1,C1,A2,C2,A3,C3) 32)).alloc (.cells x 119)).alloc (.cells () 32)).heap[w.heap.size+1]? = some (.cells x 119 (0,0)):=by
   have h:=blkN (w.alloc (.cells (n,A0,C0,A1,C1,A2,C2,A3,C3) 32)) x 119;rw[show (w.alloc (.cells (n,A0,C0,A1,C1,A2,C2,A3,C3) 32)).heap.size=w.heap.size+1 by simp] at h;replace h:=blkA h Q3k (.cells () 32);exact h
  have KX_0:=IJ k_X;have k_R:(((w.alloc (.cells (n,A0,C0,A1,C1,A2,C2,A3,C3) 32)).alloc (.cells x 119)).alloc (.cells () 32)).heap[w.heap.size+2]? = some (.cells () 32 (0,0)):=by
   have h:=blkN ((w.alloc (.cells (n,A0,C0,A1,C1,A2,C2,A3,C3) 32)).alloc (.cells x 119)) () 32;rw[show ((w.alloc (.cells (n,A0,C0,A1,C1,A2,C2,A3,C3) 32)).alloc (.cells x 119)).heap.size=w.heap.size+2 by simp] at h;exact h
  have KR_0:=IJ k_R;clear k_N k_X k_R;have BB_0:=IJ BB0_;clear BB0_;go_enter Tryz.func91,Tryz.ntmps91;go_upto_region 1 with (fail);generalize (((w.alloc (.cells (n,A0,C0,A1,C1,A2,C2,A3,C3) 32)).alloc (.cells x 119)).alloc (.cells () 32))=W0 at *;have fN0:=blkC (v:=IZ A0 n.sites.length C0) KN_0.out 0 rfl;have fN1:=blkC (v:=IZ A1 n.sectors.length C1) KN_0.out 1 rfl;have fN2:=blkC (v:=IZ A2 n.antennas.length C2) KN_0.out 2 rfl;have fN3:=blkC (v:=IZ A3 n.radios.length C3) KN_0.out 3 rfl;have fX0:=blkC (v:=IQ x.name) KX_0.out 0 rfl;have fX1:=blkC (v:=IQ x.holder) KX_0.out 1 rfl;have fX2:=blkC (v:=J x.place.x) KX_0.out 2 rfl;have fX3:=blkC (v:=J x.place.y) KX_0.out 3 rfl;have fR0:=blkC (v:=IZ none 0 0) KR_0.out 0 rfl;have fR1:=blkC (v:=IZ none 0 0) KR_0.out 1 rfl;have fR2:=blkC (v:=IZ none 0 0) KR_0.out 2 rfl;have fR3:=blkC (v:=IZ none 0 0) KR_0.out 3 rfl;go_wp2_with fail;refine (zc4 n _ _ _ _ w.heap.size _ ((R0.out.below BB_0.out).mono Q3o) ((R1.out.below BB_0.out).mono Q3o) ((R2.out.below BB_0.out).mono Q3o) ((R3.out.below BB_0.out).mono Q3o) II (blkC KN_0.out 0 rfl) (blkC KN_0.out 1 rfl) (blkC KN_0.out 2 rfl) (blkC KN_0.out 3 rfl) II hk_n).mono ?_;rintro e X1 ⟨rfl,hb⟩;clear fN0 fN1 fN2 fN3 fX0 fX1 fX2 fX3 fR0 fR1 fR2 fR3;have KN_1:=IJ (blkB KN_0.out hb II);have KX_1:=IJ (blkB KX_0.out hb II);have KR_1:=IJ (blkB KR_0.out hb II);have BB_1:=IJ (BB_0.out.trans (hb.mono II));have zz1:W0.heap.size≤X1.heap.size:=hb.size;clear KN_0 KX_0 KR_0 BB_0 hb;rw[hv];have fN0:=blkC (v:=IZ A0 n.sites.length C0) KN_1.out 0 rfl;have fN1:=blkC (v:=IZ A1 n.sectors.length C1) KN_1.out 1 rfl;have fN2:=blkC (v:=IZ A2 n.antennas.length C2) KN_1.out 2 rfl;have fN3:=blkC (v:=IZ A3 n.radios.length C3) KN_1.out 3 rfl;have fX0:=blkC (v:=IQ x.name) KX_1.out 0 rfl;have fX1:=blkC (v:=IQ x.holder) KX_1.out 1 rfl;have fX2:=blkC (v:=J x.place.x) KX_1.out 2 rfl;have fX3:=blkC (v:=J x.place.y) KX_1.out 3 rfl;have fR0:=blkC (v:=IZ none 0 0) KR_1.out 0 rfl;have fR1:=blkC (v:=IZ none 0 0) KR_1.out 1 rfl;have fR2:=blkC (v:=IZ none 0 0) KR_1.out 2 rfl;have fR3:=blkC (v:=IZ none 0 0) KR_1.out 3 rfl;go_wp2_with fail;refine (zeq x (w.heap.size+1) 0 _ Q2u Q2m Q2n Q2o hko.name hko.holder).mono ?_;rintro e X2 ⟨rfl,hb⟩;clear fN0 fN1 fN2 fN3 fX0 fX1 fX2 fX3 fR0 fR1 fR2 fR3;have KN_2:=IJ (blkB KN_1.out hb II);have KX_2:=IJ (blkB KX_1.out hb II);have KR_2:=IJ (blkB KR_1.out hb II);have BB_2:=IJ (BB_1.out.trans (hb.mono II));have zz2:X1.heap.size≤X2.heap.size:=hb.size;clear KN_1 KX_1 KR_1 BB_1 hb;rw[hx];have fN0:=blkC (v:=IZ A0 n.sites.length C0) KN_2.out 0 rfl;have fN1:=blkC (v:=IZ A1 n.sectors.length C1) KN_2.out 1 rfl;have fN2:=blkC (v:=IZ A2 n.antennas.length C2) KN_2.out 2 rfl;have fN3:=blkC (v:=IZ A3 n.radios.length C3) KN_2.out 3 rfl;have fX0:=blkC (v:=IQ x.name) KX_2.out 0 rfl;have fX1:=blkC (v:=IQ x.holder) KX_2.out 1 rfl;have fX2:=blkC (v:=J x.place.x) KX_2.out 2 rfl;have fX3:=blkC (v:=J x.place.y) KX_2.out 3 rfl;have fR0:=blkC (v:=IZ none 0 0) KR_2.out 0 rfl;have fR1:=blkC (v:=IZ none 0 0) KR_2.out 1 rfl;have fR2:=blkC (v:=IZ none 0 0) KR_2.out 2 rfl;have fR3:=blkC (v:=IZ none 0 0) KR_2.out 3 rfl;have zR:=blkF KR_2.out;go_wp2;have BF:=IJ (((((BB_2.out).setCell (p:=⟨w.heap.size+2,0,none⟩) Q3d (IZ none 0 0)).setCell (p:=⟨w.heap.size+2,1,none⟩) Q3d (IZ none 0 0)).setCell (p:=⟨w.heap.size+2,2,none⟩) Q3d (IZ none 0 0)).setCell (p:=⟨w.heap.size+2,3,none⟩) Q3d (IZ none 0 0));refine bodyPost_ret (v:=.tuple #[.agg (),J 1]) Q35 rfl ?_;rw[HE.out]
  exact Q0e
 rcases zb6 (fun y:DSite=>eqS y.name x.name) n.sites with ⟨hi,hno⟩|⟨k,hk,hi,_,_⟩
 case inr =>
  have HE:=IJ (addSiteR_there hv hx hi);have HI:Hid (zby n.sites x.name=(k:Int)):=hi;clear hi;have BB0_:OI w w (((w.alloc (.cells (n,A0,C0,A1,C1,A2,C2,A3,C3) 32)).alloc (.cells x 119)).alloc (.cells () 32)):=Below.alloc (Below.alloc (Below.alloc (Below.refl _ _) Q31 _) Q31 _) Q31 _;have zz0:w.heap.size+3≤(((w.alloc (.cells (n,A0,C0,A1,C1,A2,C2,A3,C3) 32)).alloc (.cells x 119)).alloc (.cells () 32)).heap.size:=by simp
  have k_N:(((w.alloc (.cells (n,A0,C0,A1,C1,A2,C2,A3,C3) 32)).alloc (.cells x 119)).alloc (.cells () 32)).heap[w.heap.size]? = some (.cells (n,A0,C0,A1,C1,A2,C2,A3,C3) 32 (0,0)):=by
   have h:=blkN w (n,A0,C0,A1,C1,A2,C2,A3,C3) 32;replace h:=blkA h Q3k (.cells x 119);replace h:=blkA h Q3k (.cells () 32);exact h
  have KN_0:=IJ k_N;have k_X:(((w.alloc (.cells (n,A0,C0,A1,C1,A2,C2,A3,C3) 32)).alloc (.cells x 119)).alloc (.cells () 32)).heap[w.heap.size+1]? = some (.cells x 119 (0,0)):=by
   have h:=blkN (w.alloc (.cells (n,A0,C0,A1,C1,A2,C2,A3,C3) 32)) x 119;rw[show (w.alloc (.cells (n,A0,C0,A1,C1,A2,C2,A3,C3) 32)).heap.size=w.heap.size+1 by simp] at h;replace h:=blkA h Q3k (.cells () 32);exact h
  have KX_0:=IJ k_X;have k_R:(((w.alloc (.cells (n,A0,C0,A1,C1,A2,C2,A3,C3) 32)).alloc (.cells x 119)).alloc (.cells () 32)).heap[w.heap.size+2]? = some (.cells () 32 (0,0)):=by
   have h:=blkN ((w.alloc (.cells (n,A0,C0,A1,C1,A2,C2,A3,C3) 32)).alloc (.cells x 119)) () 32;rw[show ((w.alloc (.cells (n,A0,C0,A1,C1,A2,C2,A3,C3) 32)).alloc (.cells x 119)).heap.size=w.heap.size+2 by simp] at h;exact h
  have KR_0:=IJ k_R;clear k_N k_X k_R;have BB_0:=IJ BB0_;clear BB0_;go_enter Tryz.func91,Tryz.ntmps91;go_upto_region 1 with (fail);generalize (((w.alloc (.cells (n,A0,C0,A1,C1,A2,C2,A3,C3) 32)).alloc (.cells x 119)).alloc (.cells () 32))=W0 at *;have fN0:=blkC (v:=IZ A0 n.sites.length C0) KN_0.out 0 rfl;have fN1:=blkC (v:=IZ A1 n.sectors.length C1) KN_0.out 1 rfl;have fN2:=blkC (v:=IZ A2 n.antennas.length C2) KN_0.out 2 rfl;have fN3:=blkC (v:=IZ A3 n.radios.length C3) KN_0.out 3 rfl;have fX0:=blkC (v:=IQ x.name) KX_0.out 0 rfl;have fX1:=blkC (v:=IQ x.holder) KX_0.out 1 rfl;have fX2:=blkC (v:=J x.place.x) KX_0.out 2 rfl;have fX3:=blkC (v:=J x.place.y) KX_0.out 3 rfl;have fR0:=blkC (v:=IZ none 0 0) KR_0.out 0 rfl;have fR1:=blkC (v:=IZ none 0 0) KR_0.out 1 rfl;have fR2:=blkC (v:=IZ none 0 0) KR_0.out 2 rfl;have fR3:=blkC (v:=IZ none 0 0) KR_0.out 3 rfl;go_wp2_with fail;refine (zc4 n _ _ _ _ w.heap.size _ ((R0.out.below BB_0.out).mono Q3o) ((R1.out.below BB_0.out).mono Q3o) ((R2.out.below BB_0.out).mono Q3o) ((R3.out.below BB_0.out).mono Q3o) II (blkC KN_0.out 0 rfl) (blkC KN_0.out 1 rfl) (blkC KN_0.out 2 rfl) (blkC KN_0.out 3 rfl) II hk_n).mono ?_;rintro e X1 ⟨rfl,hb⟩;clear fN0 fN1 fN2 fN3 fX0 fX1 fX2 fX3 fR0 fR1 fR2 fR3;have KN_1:=IJ (blkB KN_0.out hb II);have KX_1:=IJ (blkB KX_0.out hb II);have KR_1:=IJ (blkB KR_0.out hb II);have BB_1:=IJ (BB_0.out.trans (hb.mono II));have zz1:W0.heap.size≤X1.heap.size:=hb.size;clear KN_0 KX_0 KR_0 BB_0 hb;rw[hv];have fN0:=blkC (v:=IZ A0 n.sites.length C0) KN_1.out 0 rfl;have fN1:=blkC (v:=IZ A1 n.sectors.length C1) KN_1.out 1 rfl;have fN2:=blkC (v:=IZ A2 n.antennas.length C2) KN_1.out 2 rfl;have fN3:=blkC (v:=IZ A3 n.radios.length C3) KN_1.out 3 rfl;have fX0:=blkC (v:=IQ x.name) KX_1.out 0 rfl;have fX1:=blkC (v:=IQ x.holder) KX_1.out 1 rfl;have fX2:=blkC (v:=J x.place.x) KX_1.out 2 rfl;have fX3:=blkC (v:=J x.place.y) KX_1.out 3 rfl;have fR0:=blkC (v:=IZ none 0 0) KR_1.out 0 rfl;have fR1:=blkC (v:=IZ none 0 0) KR_1.out 1 rfl;have fR2:=blkC (v:=IZ none 0 0) KR_1.out 2 rfl;have fR3:=blkC (v:=IZ none 0 0) KR_1.out 3 rfl;go_wp2_with fail;refine (zeq x (w.heap.size+1) 0 _ Q2u Q2m Q2n Q2o hko.name hko.holder).mono ?_;rintro e X2 ⟨rfl,hb⟩;clear fN0 fN1 fN2 fN3 fX0 fX1 fX2 fX3 fR0 fR1 fR2 fR3;have KN_2:=IJ (blkB KN_1.out hb II);have KX_2:=IJ (blkB KX_1.out hb II);have KR_2:=IJ (blkB KR_1.out hb II);have BB_2:=IJ (BB_1.out.trans (hb.mono II));have zz2:X1.heap.size≤X2.heap.size:=hb.size;clear KN_1 KX_1 KR_1 BB_1 hb;rw[hx];have fN0:=blkC (v:=IZ A0 n.sites.length C0) KN_2.out 0 rfl;have fN1:=blkC (v:=IZ A1 n.sectors.length C1) KN_2.out 1 rfl;have fN2:=blkC (v:=IZ A2 n.antennas.length C2) KN_2.out 2 rfl;have fN3:=blkC (v:=IZ A3 n.radios.length C3) KN_2.out 3 rfl;have fX0:=blkC (v:=IQ x.name) KX_2.out 0 rfl;have fX1:=blkC (v:=IQ x.holder) KX_2.out 1 rfl;have fX2:=blkC (v:=J x.place.x) KX_2.out 2 rfl;have fX3:=blkC (v:=J x.place.y) KX_2.out 3 rfl;have fR0:=blkC (v:=IZ none 0 0) KR_2.out 0 rfl;have fR1:=blkC (v:=IZ none 0 0) KR_2.out 1 rfl;have fR2:=blkC (v:=IZ none 0 0) KR_2.out 2 rfl;have fR3:=blkC (v:=IZ none 0 0) KR_2.out 3 rfl;go_wp2_with fail;refine (zdt n.sites x.name _ w.heap.size w.heap.size _ (R0.out.below BB_2.out) Q3p (blkC KN_2.out 0 rfl) II).mono ?_;rintro e _ ⟨rfl,rfl⟩;clear fN0 fN1 fN2 fN3 fX0 fX1 fX2 fX3 fR0 fR1 fR2 fR3;rw[HI.out];have fN0:=blkC (v:=IZ A0 n.sites.length C0) KN_2.out 0 rfl;have fN1:=blkC (v:=IZ A1 n.sectors.length C1) KN_2.out 1 rfl;have fN2:=blkC (v:=IZ A2 n.antennas.length C2) KN_2.out 2 rfl;have fN3:=blkC (v:=IZ A3 n.radios.length C3) KN_2.out 3 rfl;have fX0:=blkC (v:=IQ x.name) KX_2.out 0 rfl;have fX1:=blkC (v:=IQ x.holder) KX_2.out 1 rfl;have fX2:=blkC (v:=J x.place.x) KX_2.out 2 rfl;have fX3:=blkC (v:=J x.place.y) KX_2.out 3 rfl;have fR0:=blkC (v:=IZ none 0 0) KR_2.out 0 rfl;have fR1:=blkC (v:=IZ none 0 0) KR_2.out 1 rfl;have fR2:=blkC (v:=IZ none 0 0) KR_2.out 2 rfl;have fR3:=blkC (v:=IZ none 0 0) KR_2.out 3 rfl;have zR:=blkF KR_2.out;go_wp2;have BF:=IJ (((((BB_2.out).setCell (p:=⟨w.heap.size+2,0,none⟩) Q3d (IZ none 0 0)).setCell (p:=⟨w.heap.size+2,1,none⟩) Q3d (IZ none 0 0)).setCell (p:=⟨w.heap.size+2,2,none⟩) Q3d (IZ none 0 0)).setCell (p:=⟨w.heap.size+2,3,none⟩) Q3d (IZ none 0 0));refine bodyPost_ret (v:=.tuple #[.agg (),J 4]) Q35 rfl ?_;rw[HE.out]
  exact Q0e
 have HNO:=IJ (none_eqS (f:=DSite.name) hno);clear hno
 by_cases hlen:n.sites.length=12
 ·have HE:=IJ (addSiteR_full hv hx hi hlen)
  have HI:Hid (zby n.sites x.name = -1):=hi;have hl2:((n.sites.length:Int) == 12)=true:=by simp<;>omega
  have HLN:=IJ hlen;clear hi hlen;have BB0_:OI w w (((w.alloc (.cells (n,A0,C0,A1,C1,A2,C2,A3,C3) 32)).alloc (.cells x 119)).alloc (.cells () 32)):=Below.alloc (Below.alloc (Below.alloc (Below.refl _ _) Q31 _) Q31 _) Q31 _;have zz0:w.heap.size+3≤(((w.alloc (.cells (n,A0,C0,A1,C1,A2,C2,A3,C3) 32)).alloc (.cells x 119)).alloc (.cells () 32)).heap.size:=by simp
  have k_N:(((w.alloc (.cells (n,A0,C0,A1,C1,A2,C2,A3,C3) 32)).alloc (.cells x 119)).alloc (.cells () 32)).heap[w.heap.size]? = some (.cells (n,A0,C0,A1,C1,A2,C2,A3,C3) 32 (0,0)):=by
   have h:=blkN w (n,A0,C0,A1,C1,A2,C2,A3,C3) 32;replace h:=blkA h Q3k (.cells x 119);replace h:=blkA h Q3k (.cells () 32);exact h
  have KN_0:=IJ k_N;have k_X:(((w.alloc (.cells (n,A0,C0,A1,C1,A2,C2,A3,C3) 32)).alloc (.cells x 119)).alloc (.cells () 32)).heap[w.heap.size+1]? = some (.cells x 119 (0,0)):=by
   have h:=blkN (w.alloc (.cells (n,A0,C0,A1,C1,A2,C2,A3,C3) 32)) x 119;rw[show (w.alloc (.cells (n,A0,C0,A1,C1,A2,C2,A3,C3) 32)).heap.size=w.heap.size+1 by simp] at h;replace h:=blkA h Q3k (.cells () 32);exact h
  have KX_0:=IJ k_X;have k_R:(((w.alloc (.cells (n,A0,C0,A1,C1,A2,C2,A3,C3) 32)).alloc (.cells x 119)).alloc (.cells () 32)).heap[w.heap.size+2]? = some (.cells () 32 (0,0)):=by
   have h:=blkN ((w.alloc (.cells (n,A0,C0,A1,C1,A2,C2,A3,C3) 32)).alloc (.cells x 119)) () 32;rw[show ((w.alloc (.cells (n,A0,C0,A1,C1,A2,C2,A3,C3) 32)).alloc (.cells x 119)).heap.size=w.heap.size+2 by simp] at h;exact h
  have KR_0:=IJ k_R;clear k_N k_X k_R;have BB_0:=IJ BB0_;clear BB0_;go_enter Tryz.func91,Tryz.ntmps91;go_upto_region 1 with (fail);generalize (((w.alloc (.cells (n,A0,C0,A1,C1,A2,C2,A3,C3) 32)).alloc (.cells x 119)).alloc (.cells () 32))=W0 at *;have fN0:=blkC (v:=IZ A0 n.sites.length C0) KN_0.out 0 rfl;have fN1:=blkC (v:=IZ A1 n.sectors.length C1) KN_0.out 1 rfl;have fN2:=blkC (v:=IZ A2 n.antennas.length C2) KN_0.out 2 rfl;have fN3:=blkC (v:=IZ A3 n.radios.length C3) KN_0.out 3 rfl;have fX0:=blkC (v:=IQ x.name) KX_0.out 0 rfl;have fX1:=blkC (v:=IQ x.holder) KX_0.out 1 rfl;have fX2:=blkC (v:=J x.place.x) KX_0.out 2 rfl;have fX3:=blkC (v:=J x.place.y) KX_0.out 3 rfl;have fR0:=blkC (v:=IZ none 0 0) KR_0.out 0 rfl;have fR1:=blkC (v:=IZ none 0 0) KR_0.out 1 rfl;have fR2:=blkC (v:=IZ none 0 0) KR_0.out 2 rfl;have fR3:=blkC (v:=IZ none 0 0) KR_0.out 3 rfl;go_wp2_with fail;refine (zc4 n _ _ _ _ w.heap.size _ ((R0.out.below BB_0.out).mono Q3o) ((R1.out.below BB_0.out).mono Q3o) ((R2.out.below BB_0.out).mono Q3o) ((R3.out.below BB_0.out).mono Q3o) II (blkC KN_0.out 0 rfl) (blkC KN_0.out 1 rfl) (blkC KN_0.out 2 rfl) (blkC KN_0.out 3 rfl) II hk_n).mono ?_;rintro e X1 ⟨rfl,hb⟩;clear fN0 fN1 fN2 fN3 fX0 fX1 fX2 fX3 fR0 fR1 fR2 fR3;have KN_1:=IJ (blkB KN_0.out hb II);have KX_1:=IJ (blkB KX_0.out hb II);have KR_1:=IJ (blkB KR_0.out hb II);have BB_1:=IJ (BB_0.out.trans (hb.mono II));have zz1:W0.heap.size≤X1.heap.size:=hb.size;clear KN_0 KX_0 KR_0 BB_0 hb;rw[hv];have fN0:=blkC (v:=IZ A0 n.sites.length C0) KN_1.out 0 rfl;have fN1:=blkC (v:=IZ A1 n.sectors.length C1) KN_1.out 1 rfl;have fN2:=blkC (v:=IZ A2 n.antennas.length C2) KN_1.out 2 rfl;have fN3:=blkC (v:=IZ A3 n.radios.length C3) KN_1.out 3 rfl;have fX0:=blkC (v:=IQ x.name) KX_1.out 0 rfl;have fX1:=blkC (v:=IQ x.holder) KX_1.out 1 rfl;have fX2:=blkC (v:=J x.place.x) KX_1.out 2 rfl;have fX3:=blkC (v:=J x.place.y) KX_1.out 3 rfl;have fR0:=blkC (v:=IZ none 0 0) KR_1.out 0 rfl;have fR1:=blkC (v:=IZ none 0 0) KR_1.out 1 rfl;have fR2:=blkC (v:=IZ none 0 0) KR_1.out 2 rfl;have fR3:=blkC (v:=IZ none 0 0) KR_1.out 3 rfl;go_wp2_with fail;refine (zeq x (w.heap.size+1) 0 _ Q2u Q2m Q2n Q2o hko.name hko.holder).mono ?_;rintro e X2 ⟨rfl,hb⟩;clear fN0 fN1 fN2 fN3 fX0 fX1 fX2 fX3 fR0 fR1 fR2 fR3;have KN_2:=IJ (blkB KN_1.out hb II);have KX_2:=IJ (blkB KX_1.out hb II);have KR_2:=IJ (blkB KR_1.out hb II);have BB_2:=IJ (BB_1.out.trans (hb.mono II));have zz2:X1.heap.size≤X2.heap.size:=hb.size;clear KN_1 KX_1 KR_1 BB_1 hb;rw[hx];have fN0:=blkC (v:=IZ A0 n.sites.length C0) KN_2.out 0 rfl;have fN1:=blkC (v:=IZ A1 n.sectors.length C1) KN_2.out 1 rfl;have fN2:=blkC (v:=IZ A2 n.antennas.length C2) KN_2.out 2 rfl;have fN3:=blkC (v:=IZ A3 n.radios.length C3) KN_2.out 3 rfl;have fX0:=blkC (v:=IQ x.name) KX_2.out 0 rfl;have fX1:=blkC (v:=IQ x.holder) KX_2.out 1 rfl;have fX2:=blkC (v:=J x.place.x) KX_2.out 2 rfl;have fX3:=blkC (v:=J x.place.y) KX_2.out 3 rfl;have fR0:=blkC (v:=IZ none 0 0) KR_2.out 0 rfl;have fR1:=blkC (v:=IZ none 0 0) KR_2.out 1 rfl;have fR2:=blkC (v:=IZ none 0 0) KR_2.out 2 rfl;have fR3:=blkC (v:=IZ none 0 0) KR_2.out 3 rfl;go_wp2_with fail;refine (zdt n.sites x.name _ w.heap.size w.heap.size _ (R0.out.below BB_2.out) Q3p (blkC KN_2.out 0 rfl) II).mono ?_;rintro e _ ⟨rfl,rfl⟩;clear fN0 fN1 fN2 fN3 fX0 fX1 fX2 fX3 fR0 fR1 fR2 fR3;rw[HI.out];have fN0:=blkC (v:=IZ A0 n.sites.length C0) KN_2.out 0 rfl;have fN1:=blkC (v:=IZ A1 n.sectors.length C1) KN_2.out 1 rfl;have fN2:=blkC (v:=IZ A2 n.antennas.length C2) KN_2.out 2 rfl;have fN3:=blkC (v:=IZ A3 n.radios.length C3) KN_2.out 3 rfl;have fX0:=blkC (v:=IQ x.name) KX_2.out 0 rfl;have fX1:=blkC (v:=IQ x.holder) KX_2.out 1 rfl;have fX2:=blkC (v:=J x.place.x) KX_2.out 2 rfl;have fX3:=blkC (v:=J x.place.y) KX_2.out 3 rfl;have fR0:=blkC (v:=IZ none 0 0) KR_2.out 0 rfl;have fR1:=blkC (v:=IZ none 0 0) KR_2.out 1 rfl;have fR2:=blkC (v:=IZ none 0 0) KR_2.out 2 rfl;have fR3:=blkC (v:=IZ none 0 0) KR_2.out 3 rfl;have zR:=blkF KR_2.out;go_wp2;have BF:=IJ (((((BB_2.out).setCell (p:=⟨w.heap.size+2,0,none⟩) Q3d (IZ none 0 0)).setCell (p:=⟨w.heap.size+2,1,none⟩) Q3d (IZ none 0 0)).setCell (p:=⟨w.heap.size+2,2,none⟩) Q3d (IZ none 0 0)).setCell (p:=⟨w.heap.size+2,3,none⟩) Q3d (IZ none 0 0));refine bodyPost_ret (v:=.tuple #[.agg (),J 5]) Q35 rfl ?_;rw[HE.out]
  exact Q0e
 have HE:=IJ (addSiteR_ok hv hx hi hlen);have HI:Hid (zby n.sites x.name = -1):=hi;have hl2:((n.sites.length:Int) == 12)=false:=by simp<;>omega
 have hl3:¬ ((n.sites.length:Int)=12):=II
 clear hi;have hsl:n.sites.length≤1048576:=II
 have RISE:=IJ (siteRise hv);have rs_:=R0.out;rw[DSite.sT_vs] at rs_;have RS:=IJ (rs_.readsV II);obtain⟨_,_,ee_,hlc,hcm_,-⟩:=DSite.rd R0.out;injection ee_ with ee1_ _ ee3_;subst ee1_ ee3_;unfold maxLen at hcm_;have ON:=IJ (DSite.vs_one n.sites);clear rs_;have ONX:Hid (∀ u ∈ x.vs,u.oneCell' = true):=fun u hu=>DSite.vs_one [x] u (by simpa using hu)
 have BB0_:OI w w (((w.alloc (.cells (n,A0,C0,A1,C1,A2,C2,A3,C3) 32)).alloc (.cells x 119)).alloc (.cells () 32)):=Below.alloc (Below.alloc (Below.alloc (Below.refl _ _) Q31 _) Q31 _) Q31 _;have zz0:w.heap.size+3≤(((w.alloc (.cells (n,A0,C0,A1,C1,A2,C2,A3,C3) 32)).alloc (.cells x 119)).alloc (.cells () 32)).heap.size:=by simp
 have k_N:(((w.alloc (.cells (n,A0,C0,A1,C1,A2,C2,A3,C3) 32)).alloc (.cells x 119)).alloc (.cells () 32)).heap[w.heap.size]? = some (.cells (n,A0,C0,A1,C1,A2,C2,A3,C3) 32 (0,0)):=by
  have h:=blkN w (n,A0,C0,A1,C1,A2,C2,A3,C3) 32;replace h:=blkA h Q3k (.cells x 119);replace h:=blkA h Q3k (.cells () 32);exact h
 have KN_0:=IJ k_N;have k_X:(((w.alloc (.cells (n,A0,C0,A1,C1,A2,C2,A3,C3) 32)).alloc (.cells x 119)).alloc (.cells () 32)).heap[w.heap.size+1]? = some (.cells x 119 (0,0)):=by
  have h:=blkN (w.alloc (.cells (n,A0,C0,A1,C1,A2,C2,A3,C3) 32)) x 119;rw[show (w.alloc (.cells (n,A0,C0,A1,C1,A2,C2,A3,C3) 32)).heap.size=w.heap.size+1 by simp] at h;replace h:=blkA h Q3k (.cells () 32);exact h
 have KX_0:=IJ k_X;have k_R:(((w.alloc (.cells (n,A0,C0,A1,C1,A2,C2,A3,C3) 32)).alloc (.cells x 119)).alloc (.cells () 32)).heap[w.heap.size+2]? = some (.cells () 32 (0,0)):=by
  have h:=blkN ((w.alloc (.cells (n,A0,C0,A1,C1,A2,C2,A3,C3) 32)).alloc (.cells x 119)) () 32;rw[show ((w.alloc (.cells (n,A0,C0,A1,C1,A2,C2,A3,C3) 32)).alloc (.cells x 119)).heap.size=w.heap.size+2 by simp] at h;exact h
 have KR_0:=IJ k_R;clear k_N k_X k_R;have BB_0:=IJ BB0_;clear BB0_;go_enter Tryz.func91,Tryz.ntmps91;go_upto_region 1 with (fail);generalize (((w.alloc (.cells (n,A0,C0,A1,C1,A2,C2,A3,C3) 32)).alloc (.cells x 119)).alloc (.cells () 32))=W0 at *;have fN0:=blkC (v:=IZ A0 n.sites.length C0) KN_0.out 0 rfl;have fN1:=blkC (v:=IZ A1 n.sectors.length C1) KN_0.out 1 rfl;have fN2:=blkC (v:=IZ A2 n.antennas.length C2) KN_0.out 2 rfl;have fN3:=blkC (v:=IZ A3 n.radios.length C3) KN_0.out 3 rfl;have fX0:=blkC (v:=IQ x.name) KX_0.out 0 rfl;have fX1:=blkC (v:=IQ x.holder) KX_0.out 1 rfl;have fX2:=blkC (v:=J x.place.x) KX_0.out 2 rfl;have fX3:=blkC (v:=J x.place.y) KX_0.out 3 rfl;have fR0:=blkC (v:=IZ none 0 0) KR_0.out 0 rfl;have fR1:=blkC (v:=IZ none 0 0) KR_0.out 1 rfl;have fR2:=blkC (v:=IZ none 0 0) KR_0.out 2 rfl;have fR3:=blkC (v:=IZ none 0 0) KR_0.out 3 rfl;go_wp2_with fail;refine (zc4 n _ _ _ _ w.heap.size _ ((R0.out.below BB_0.out).mono Q3o) ((R1.out.below BB_0.out).mono Q3o) ((R2.out.below BB_0.out).mono Q3o) ((R3.out.below BB_0.out).mono Q3o) II (blkC KN_0.out 0 rfl) (blkC KN_0.out 1 rfl) (blkC KN_0.out 2 rfl) (blkC KN_0.out 3 rfl) II hk_n).mono ?_;rintro e X1 ⟨rfl,hb⟩;clear fN0 fN1 fN2 fN3 fX0 fX1 fX2 fX3 fR0 fR1 fR2 fR3;have KN_1:=IJ (blkB KN_0.out hb II);have KX_1:=IJ (blkB KX_0.out hb II);have KR_1:=IJ (blkB KR_0.out hb II);have BB_1:=IJ (BB_0.out.trans (hb.mono II));have zz1:W0.heap.size≤X1.heap.size:=hb.size;clear KN_0 KX_0 KR_0 BB_0 hb;rw[hv];have fN0:=blkC (v:=IZ A0 n.sites.length C0) KN_1.out 0 rfl;have fN1:=blkC (v:=IZ A1 n.sectors.length C1) KN_1.out 1 rfl;have fN2:=blkC (v:=IZ A2 n.antennas.length C2) KN_1.out 2 rfl;have fN3:=blkC (v:=IZ A3 n.radios.length C3) KN_1.out 3 rfl;have fX0:=blkC (v:=IQ x.name) KX_1.out 0 rfl;have fX1:=blkC (v:=IQ x.holder) KX_1.out 1 rfl;have fX2:=blkC (v:=J x.place.x) KX_1.out 2 rfl;have fX3:=blkC (v:=J x.place.y) KX_1.out 3 rfl;have fR0:=blkC (v:=IZ none 0 0) KR_1.out 0 rfl;have fR1:=blkC (v:=IZ none 0 0) KR_1.out 1 rfl;have fR2:=blkC (v:=IZ none 0 0) KR_1.out 2 rfl;have fR3:=blkC (v:=IZ none 0 0) KR_1.out 3 rfl;go_wp2_with fail;refine (zeq x (w.heap.size+1) 0 _ Q2u Q2m Q2n Q2o hko.name hko.holder).mono ?_;rintro e X2 ⟨rfl,hb⟩;clear fN0 fN1 fN2 fN3 fX0 fX1 fX2 fX3 fR0 fR1 fR2 fR3;have KN_2:=IJ (blkB KN_1.out hb II);have KX_2:=IJ (blkB KX_1.out hb II);have KR_2:=IJ (blkB KR_1.out hb II);have BB_2:=IJ (BB_1.out.trans (hb.mono II));have zz2:X1.heap.size≤X2.heap.size:=hb.size;clear KN_1 KX_1 KR_1 BB_1 hb;rw[hx];have fN0:=blkC (v:=IZ A0 n.sites.length C0) KN_2.out 0 rfl;have fN1:=blkC (v:=IZ A1 n.sectors.length C1) KN_2.out 1 rfl;have fN2:=blkC (v:=IZ A2 n.antennas.length C2) KN_2.out 2 rfl;have fN3:=blkC (v:=IZ A3 n.radios.length C3) KN_2.out 3 rfl;have fX0:=blkC (v:=IQ x.name) KX_2.out 0 rfl;have fX1:=blkC (v:=IQ x.holder) KX_2.out 1 rfl;have fX2:=blkC (v:=J x.place.x) KX_2.out 2 rfl;have fX3:=blkC (v:=J x.place.y) KX_2.out 3 rfl;have fR0:=blkC (v:=IZ none 0 0) KR_2.out 0 rfl;have fR1:=blkC (v:=IZ none 0 0) KR_2.out 1 rfl;have fR2:=blkC (v:=IZ none 0 0) KR_2.out 2 rfl;have fR3:=blkC (v:=IZ none 0 0) KR_2.out 3 rfl;go_wp2_with fail;refine (zdt n.sites x.name _ w.heap.size w.heap.size _ (R0.out.below BB_2.out) Q3p (blkC KN_2.out 0 rfl) II).mono ?_;rintro e _ ⟨rfl,rfl⟩;clear fN0 fN1 fN2 fN3 fX0 fX1 fX2 fX3 fR0 fR1 fR2 fR3;rw[HI.out];have fN0:=blkC (v:=IZ A0 n.sites.length C0) KN_2.out 0 rfl;have fN1:=blkC (v:=IZ A1 n.sectors.length C1) KN_2.out 1 rfl;have fN2:=blkC (v:=IZ A2 n.antennas.length C2) KN_2.out 2 rfl;have fN3:=blkC (v:=IZ A3 n.radios.length C3) KN_2.out 3 rfl;have fX0:=blkC (v:=IQ x.name) KX_2.out 0 rfl;have fX1:=blkC (v:=IQ x.holder) KX_2.out 1 rfl;have fX2:=blkC (v:=J x.place.x) KX_2.out 2 rfl;have fX3:=blkC (v:=J x.place.y) KX_2.out 3 rfl;have fR0:=blkC (v:=IZ none 0 0) KR_2.out 0 rfl;have fR1:=blkC (v:=IZ none 0 0) KR_2.out 1 rfl;have fR2:=blkC (v:=IZ none 0 0) KR_2.out 2 rfl;have fR3:=blkC (v:=IZ none 0 0) KR_2.out 3 rfl;go_wp2_with fail;refine (l14Own_sp n _ _ _ _ w.heap.size _ ((R0.out.below BB_2.out).mono Q3p) ((R1.out.below BB_2.out).mono Q3p) ((R2.out.below BB_2.out).mono Q3p) ((R3.out.below BB_2.out).mono Q3p) II (blkC KN_2.out 0 rfl) (blkC KN_2.out 1 rfl) (blkC KN_2.out 2 rfl) (blkC KN_2.out 3 rfl) hs_n).mono ?_;rintro e X3 ⟨a0,c0,a1,c1,a2,c2,a3,c3,fp,rfl,hb,ov,iv_,sp0_,sp1_⟩;clear fN0 fN1 fN2 fN3 fX0 fX1 fX2 fX3 fR0 fR1 fR2 fR3;have KN_3:=IJ (blkB KN_2.out hb II);have KX_3:=IJ (blkB KX_2.out hb II);have KR_3:=IJ (blkB KR_2.out hb II);have BB_3:=IJ (BB_2.out.trans (hb.mono II));have zz3:X2.heap.size≤X3.heap.size:=hb.size;clear KN_2 KX_2 KR_2 BB_2 hb;clear hl2 hl3;obtain⟨f0,f1,f2,f3,fpm,O0,O1,O2,O3,d0,d1,d2⟩:=zex ov;have iv:In (w.heap.size+3) X3.heap.size fp:=iv_.mono II (Nat.le_refl _);clear ov iv_;have SPO:Hid (SpB X3 (w.heap.size+3) X3.heap.size 43 9 (IZ a1 n.sectors.length c1) n.sectors.length):=sp1_.mono II (Nat.le_refl _);clear sp0_ sp1_;have fN0:=blkC (v:=IZ A0 n.sites.length C0) KN_3.out 0 rfl;have fN1:=blkC (v:=IZ A1 n.sectors.length C1) KN_3.out 1 rfl;have fN2:=blkC (v:=IZ A2 n.antennas.length C2) KN_3.out 2 rfl;have fN3:=blkC (v:=IZ A3 n.radios.length C3) KN_3.out 3 rfl;have fX0:=blkC (v:=IQ x.name) KX_3.out 0 rfl;have fX1:=blkC (v:=IQ x.holder) KX_3.out 1 rfl;have fX2:=blkC (v:=J x.place.x) KX_3.out 2 rfl;have fX3:=blkC (v:=J x.place.y) KX_3.out 3 rfl;have fR0:=blkC (v:=IZ none 0 0) KR_3.out 0 rfl;have fR1:=blkC (v:=IZ none 0 0) KR_3.out 1 rfl;have fR2:=blkC (v:=IZ none 0 0) KR_3.out 2 rfl;have fR3:=blkC (v:=IZ none 0 0) KR_3.out 3 rfl;go_upto_region 8 with (fail);clear fN0 fN1 fN2 fN3 fX0 fX1 fX2 fX3 fR0 fR1 fR2 fR3;have hbA:OI X3 X3 (X3.alloc (.cells (n,a0,c0,a1,c1,a2,c2,a3,c3) 32)):=(Below.refl _ _).alloc (Nat.le_refl _) _;have kL:=blkN X3 (n,a0,c0,a1,c1,a2,c2,a3,c3) 32;have zL:X3.heap.size+1≤(X3.alloc (.cells (n,a0,c0,a1,c1,a2,c2,a3,c3) 32)).heap.size:=by simp
 have P0:=IJ (O0.below (lo:=w.heap.size+3) (hi:=X3.heap.size) (fun y hy=>iv y ((fpm y).2 Q46)) (Nat.le_refl _) hbA);have P1:=IJ (O1.below (lo:=w.heap.size+3) (hi:=X3.heap.size) (fun y hy=>iv y ((fpm y).2 Q46)) (Nat.le_refl _) hbA);have P2:=IJ (O2.below (lo:=w.heap.size+3) (hi:=X3.heap.size) (fun y hy=>iv y ((fpm y).2 Q46)) (Nat.le_refl _) hbA);have P3:=IJ (O3.below (lo:=w.heap.size+3) (hi:=X3.heap.size) (fun y hy=>iv y ((fpm y).2 Q46)) (Nat.le_refl _) hbA);clear O0 O1 O2 O3;have SP:=IJ (SPO.out.below (Nat.le_refl _) hbA);clear SPO;generalize (X3.alloc (.cells (n,a0,c0,a1,c1,a2,c2,a3,c3) 32))=Y at *;have KL_4:=IJ kL;clear kL;have KN_4:=IJ (blkB KN_3.out hbA II);have KX_4:=IJ (blkB KX_3.out hbA II);have KR_4:=IJ (blkB KR_3.out hbA II);have BB_4:=IJ (BB_3.out.trans (hbA.mono II));have zz4:X3.heap.size≤Y.heap.size:=hbA.size;clear KN_3 KX_3 KR_3 BB_3 hbA;have IN1:Hid (In (w.heap.size+3) X3.heap.size f1):=fun y hy=>iv y ((fpm y).2 Q46)
 have IN2:Hid (In (w.heap.size+3) X3.heap.size f2):=fun y hy=>iv y ((fpm y).2 Q46)
 have IN3:Hid (In (w.heap.size+3) X3.heap.size f3):=fun y hy=>iv y ((fpm y).2 Q46)
 have BWY:=IJ BB_4.out;have fN_:Y.cell? ⟨w,0,none⟩=some (IZ A0 n.sites.length C0):=(blkC (v:=IZ A0 n.sites.length C0) KN_4.out 0 rfl)
 go_wp2;clear fN_;go_loopw [7] (fun i wr=>∃ m:Nat,m≤n.sites.length∧i=J m∧(∀ j (h:j<n.sites.length),m≤j→ltS x.name n.sites[j].name=true)∧OI Y Y wr) (fun i wr=>(intOf i).toNat)
 case atStart=>exact⟨n.sites.length,Nat.le_refl _,rfl,fun j h h2=>absurd h II,Below.refl _ _⟩
 case round =>
  obtain⟨m,hm,rfl,hgt,hb⟩:=hrel;have HGT:=IJ hgt;have HB:=IJ hb;have zr:Y.heap.size≤wr.heap.size:=hb.size;clear hgt hb;have yN:w.heap.size<wr.heap.size:=by have:=BWY.out.size;omega
  have fN:wr.cell? ⟨w,0,none⟩=some (IZ A0 n.sites.length C0):=(bat HB.out w.heap.size 0 (by have:=BWY.out.size;omega)).trans ((blkC (v:=IZ A0 n.sites.length C0) KN_4.out 0 rfl));have oN:=zai (w0:=wr) yN
  by_cases h0:0<m
  case' pos =>
   have hml:m-1<n.sites.length:=II
   obtain⟨_,_,e_,_,_,hcl⟩:=DSite.rd R0.out;injection e_ with e1_ _ e3_;subst e1_ e3_;obtain⟨b,off,ea,hbl,hat⟩:=hcl II;rw[ea] at fN;have EA:=IJ ea;clear ea;have s0:=(hat (m-1) hml).1;have bW:=BWY.out.trans (HB.out.mono (by have:=BWY.out.size;omega));rw[← bW.cell (p:=⟨b,_,none⟩) hbl] at s0;have yB:b<wr.heap.size:=by have:=bW.size;omega
   have yX:w.heap.size+1<wr.heap.size:=II
   have fX:wr.cell? ⟨w.heap.size+1,0,none⟩=some (IQ x.name):=(bat HB.out (w.heap.size+1) 0 II).trans (blkC (v:=IQ x.name) KX_4.out 0 rfl);have oB:=zai (w0:=wr) yB;have oX:=zai (w0:=wr) yX;clear hcl hat;have g1:decide ((0:Int)<(m:Int))=true:=by simp<;>omega
   have g2:decide (0<m)=true:=by simpa using h0
   have i1:(1:Int)≤(m:Int):=II
   have i2:(0:Int)≤(m:Int)-1:=II
   have i3:(m:Int)-1<(n.sites.length:Int):=II
   have i4:IntKind.i64.wrap ((m:Int)-1)=(m:Int)-1:=IntWalk.i64_in _ II;have i5:((m:Int)-1).toNat=m-1:=II
   have i6:1≤m:=h0
   by_cases hp:ltS x.name n.sites[m-1].name=true
   ·exact Q0y
   replace hp:ltS x.name n.sites[m-1].name=false:=Bool.eq_false_iff.2 hp;have hq:=zel hp;have HP:=IJ hp;clear hp;go_wp2;refine zab wr.heap.size wr (Below.refl _ _) JI JI ?_
   repeat (go_big_quiet_step (fail))
   refine wpQuiet_nil ?_;rintro _ ⟨X,rfl⟩;have hX:=zaa wr.heap.size wr X;clear oB oX oN hq g1 g2 i4 i5 i2 s0 fX fN bW;have HPOS:Hid (zeu DSite.name n.sites x.name=m):=pos_of_end RISE.out HNO.out hm (fun _=>HP.out) (fun h=>HGT.out m h (Nat.le_refl _));generalize over wr.heap.size wr X=V at *;have hbV:OI Y Y V:=HB.out.trans (hX.mono II);have zV:Y.heap.size≤V.heap.size:=hbV.size;clear HGT HB hX;clear HP EA i1 i3 i6 hbl yB yX
  case' neg =>
   have g1:decide ((0:Int)<(m:Int))=false:=by simp<;>omega
   have g2:decide (0<m)=false:=by simp<;>omega
   go_wp2;refine zab wr.heap.size wr (Below.refl _ _) JI JI ?_
   repeat (go_big_quiet_step (fail))
   refine wpQuiet_nil ?_;rintro _ ⟨X,rfl⟩;have hX:=zaa wr.heap.size wr X;clear oN g1 g2 fN;have HPOS:Hid (zeu DSite.name n.sites x.name=m):=pos_of_end RISE.out HNO.out hm (fun h=>absurd h h0) (fun h=>HGT.out m h (Nat.le_refl _));generalize over wr.heap.size wr X=V at *;have hbV:OI Y Y V:=HB.out.trans (hX.mono II);have zV:Y.heap.size≤V.heap.size:=hbV.size;clear HGT HB hX
  all_goals
   clear h0 yN;have kc1:(m:Int)≤(C0:Int):=II
   have kc2:m≤C0:=II
   have hkn:m≤n.sites.length:=hm;have KN_5:=IJ ((hbV.block (w.heap.size) II).trans KN_4.out);have KX_5:=IJ ((hbV.block (w.heap.size+1) II).trans KX_4.out);have KR_5:=IJ ((hbV.block (w.heap.size+2) II).trans KR_4.out);have KL_5:=IJ ((hbV.block (X3.heap.size) II).trans KL_4.out);have BW_5:=IJ (BWY.out.trans (hbV.mono II));have SP_5:=IJ (SP.out.below II hbV);have P1_5:=IJ (P1.out.below IN1.out II hbV);have P2_5:=IJ (P2.out.below IN2.out II hbV);have P3_5:=IJ (P3.out.below IN3.out II hbV);clear hbV;obtain⟨ti,hi0,hi1,hi2,hi3⟩:=info_parts infoSite;have hYb:X3.heap.size<V.heap.size:=II
   have zY_5:V.heap.size≤V.heap.size:=Nat.le_refl _;have fL0:=blkC (v:=IZ a0 n.sites.length c0) KL_5.out 0 rfl;have fL1:=blkC (v:=IZ a1 n.sectors.length c1) KL_5.out 1 rfl;have fL2:=blkC (v:=IZ a2 n.antennas.length c2) KL_5.out 2 rfl;have fL3:=blkC (v:=IZ a3 n.radios.length c3) KL_5.out 3 rfl;have zLz:=blkF KL_5.out;have hnc:=(blkC (v:=IZ A0 n.sites.length C0) KN_5.out 0 rfl)
   have hby:w.heap.size<V.heap.size:=by have:=BW_5.out.size;omega
   go_upto_region 12 with (at_builtin;refine zen rfl (.tmp 45) (.tmp 49) _ rfl 119 ti _ 4 48 Tryz.underlying27 hi0 hi1 hi2 hi3 rfl II rfl w.heap.size A0 m C0 ((n.sites.flatMap DSite.vs).take (m*4)) rfl ((RS.out.below BW_5.out).head hkn) II (fun u hu=>ON.out u (List.mem_of_mem_take hu)) Q3u II ?_;intro a5 c5 Z1 hown1 hb1 hz1;have HO_6:=IJ hown1;have HB1:=IJ hb1;have kl1:=((hb1.block X3.heap.size II).trans KL_5.out);have g0:=blkC (v:=IZ a0 n.sites.length c0) kl1 0 rfl;have gz:=blkF kl1;clear hown1 hb1 kl1);have hb1:=HB1.out;clear HB1 hnc hby gz g0 fL0 fL1 fL2 fL3 zLz;have KN_6:=IJ ((hb1.block (w.heap.size) II).trans KN_5.out);have KX_6:=IJ ((hb1.block (w.heap.size+1) II).trans KX_5.out);have KR_6:=IJ ((hb1.block (w.heap.size+2) II).trans KR_5.out);have KL_6:=IJ ((hb1.block (X3.heap.size) II).trans KL_5.out);have BW_6:=IJ (BW_5.out.trans (hb1.mono II));have P1_6:=IJ (P1_5.out.below IN1.out II hb1);have P2_6:=IJ (P2_5.out.below IN2.out II hb1);have P3_6:=IJ (P3_5.out.below IN3.out II hb1);have SP_6:=IJ (SP_5.out.below II hb1);have zY_6:V.heap.size≤Z1.heap.size:=by have:=hb1.size;omega
   clear KN_5 KX_5 KR_5 KL_5 BW_5 P1_5 P2_5 P3_5 SP_5;clear hb1;have KN_7:Hid ((Z1.setCell ⟨X3,0,none⟩ (IZ a5 m c5)).heap[(w.heap.size)]? = _):=IJ (blkO KN_6.out (p:=⟨X3,0,none⟩) (by show w.heap.size≠X3.heap.size;omega) (IZ a5 m c5));have KX_7:Hid ((Z1.setCell ⟨X3,0,none⟩ (IZ a5 m c5)).heap[(w.heap.size+1)]? = _):=IJ (blkO KX_6.out (p:=⟨X3,0,none⟩) (by show w.heap.size+1≠X3.heap.size;omega) (IZ a5 m c5));have KR_7:Hid ((Z1.setCell ⟨X3,0,none⟩ (IZ a5 m c5)).heap[(w.heap.size+2)]? = _):=IJ (blkO KR_6.out (p:=⟨X3,0,none⟩) (by show w.heap.size+2≠X3.heap.size;omega) (IZ a5 m c5));have kl_:(Z1.setCell ⟨X3,0,none⟩ (IZ a5 m c5)).heap[X3.heap.size]? = some (.cells #[IZ a5 m c5,IZ a1 n.sectors.length c1,IZ a2 n.antennas.length c2,IZ a3 n.radios.length c3] 32 (0,0)):=by
    have h_:=blkS KL_6.out 0 (IZ a5 m c5)
    simpa using h_
   have KL_7:=IJ kl_;clear kl_;have BW_7:=IJ (BW_6.out.setCell (p:=⟨X3,0,none⟩) (by show w.heap.size≤X3.heap.size;omega) (IZ a5 m c5));have P1_7:=IJ (P1_6.out.frame (w':=(Z1.setCell ⟨X3,0,none⟩ (IZ a5 m c5))) (fun b hb=>Below.heap_setCell _ _ _ b (by have:=(IN1.out b hb).2;show b≠X3.heap.size;omega)));have P2_7:=IJ (P2_6.out.frame (w':=(Z1.setCell ⟨X3,0,none⟩ (IZ a5 m c5))) (fun b hb=>Below.heap_setCell _ _ _ b (by have:=(IN2.out b hb).2;show b≠X3.heap.size;omega)));have P3_7:=IJ (P3_6.out.frame (w':=(Z1.setCell ⟨X3,0,none⟩ (IZ a5 m c5))) (fun b hb=>Below.heap_setCell _ _ _ b (by have:=(IN3.out b hb).2;show b≠X3.heap.size;omega)));have SP_7:=IJ (SP_6.out.setFar (p:=⟨X3,0,none⟩) (Or.inr (Nat.le_refl _)) (IZ a5 m c5));have zY_7:V.heap.size≤(Z1.setCell ⟨X3,0,none⟩ (IZ a5 m c5)).heap.size:=by rw[zac];omega
   have HO_7:=IJ (zap (w':=(Z1.setCell ⟨X3,0,none⟩ (IZ a5 m c5))) HO_6.out (fun g hg=>Below.heap_setCell _ _ _ g (by have:=(zbf HO_6.out hg).1;show g≠X3.heap.size;omega)));clear KN_6 KX_6 KR_6 KL_6 BW_6 P1_6 P2_6 P3_6 SP_6;clear HO_6;generalize (Z1.setCell ⟨X3,0,none⟩ (IZ a5 m c5))=Z2 at *;have fL0:=blkC (v:=IZ a5 m c5) KL_7.out 0 rfl;have fL1:=blkC (v:=IZ a1 n.sectors.length c1) KL_7.out 1 rfl;have fL2:=blkC (v:=IZ a2 n.antennas.length c2) KL_7.out 2 rfl;have fL3:=blkC (v:=IZ a3 n.radios.length c3) KL_7.out 3 rfl;have zLz:=blkF KL_7.out;have fX0:=blkC (v:=IQ x.name) KX_7.out 0 rfl;have fX1:=blkC (v:=IQ x.holder) KX_7.out 1 rfl;have fX2:=blkC (v:=J x.place.x) KX_7.out 2 rfl;have fX3:=blkC (v:=J x.place.y) KX_7.out 3 rfl;have HOA:=IJ (zap (w':=(Z2.alloc (.cells x 119))) HO_7.out (fun g hg=>Below.heap_alloc _ _ g (zbf HO_7.out hg).2));have HFR:Hid (Reads (Z2.alloc (.cells x 119)) (Z2.heap.size+1) 4 (some ⟨Z2,0,none⟩) 1 x.vs):=Reads.fresh Z2 119 4 x.vs rfl;have HBA:Hid (OI V Z2 (Z2.alloc (.cells x 119))):=(Below.refl _ _).alloc II _;go_wp2_with (at_builtin;refine zcw rfl (.tmp 53) (.tmp 55) _ rfl V.heap.size 119 ti _ 4 48 Tryz.underlying27 hi0 hi1 hi2 hi3 rfl II (IZ a5 (m) c5) _ _ rfl HOA.out (Z2.heap.size+1) _ 1 1 x.vs rfl HFR.out ONX.out Q3u II Q41 ?_;intro a6 c6 Z3 hown hb;have HO_8:=IJ hown;have HB2:=IJ (HBA.out.trans hb);have kl1:=((HB2.out.block X3.heap.size II).trans KL_7.out);have g0:=blkC (v:=IZ a5 m c5) kl1 0 rfl;have gz:=blkF kl1;clear hown hb kl1);have hb2:=HB2.out;clear HB2 HOA HFR HBA gz g0 fL0 fL1 fL2 fL3 zLz fX0 fX1 fX2 fX3;have KN_8:=IJ ((hb2.block (w.heap.size) II).trans KN_7.out);have KX_8:=IJ ((hb2.block (w.heap.size+1) II).trans KX_7.out);have KR_8:=IJ ((hb2.block (w.heap.size+2) II).trans KR_7.out);have KL_8:=IJ ((hb2.block (X3.heap.size) II).trans KL_7.out);have BW_8:=IJ (BW_7.out.trans (hb2.mono II));have P1_8:=IJ (P1_7.out.below IN1.out II hb2);have P2_8:=IJ (P2_7.out.below IN2.out II hb2);have P3_8:=IJ (P3_7.out.below IN3.out II hb2);have SP_8:=IJ (SP_7.out.below II hb2);have zY_8:V.heap.size≤Z3.heap.size:=by have:=hb2.size;omega
   clear KN_7 KX_7 KR_7 KL_7 BW_7 P1_7 P2_7 P3_7 SP_7;clear hb2 HO_7;have KN_9:Hid ((Z3.setCell ⟨X3,0,none⟩ (IZ a6 (m+1) c6)).heap[(w.heap.size)]? = _):=IJ (blkO KN_8.out (p:=⟨X3,0,none⟩) (by show w.heap.size≠X3.heap.size;omega) (IZ a6 (m+1) c6));have KX_9:Hid ((Z3.setCell ⟨X3,0,none⟩ (IZ a6 (m+1) c6)).heap[(w.heap.size+1)]? = _):=IJ (blkO KX_8.out (p:=⟨X3,0,none⟩) (by show w.heap.size+1≠X3.heap.size;omega) (IZ a6 (m+1) c6));have KR_9:Hid ((Z3.setCell ⟨X3,0,none⟩ (IZ a6 (m+1) c6)).heap[(w.heap.size+2)]? = _):=IJ (blkO KR_8.out (p:=⟨X3,0,none⟩) (by show w.heap.size+2≠X3.heap.size;omega) (IZ a6 (m+1) c6));have kl_:(Z3.setCell ⟨X3,0,none⟩ (IZ a6 (m+1) c6)).heap[X3.heap.size]? = some (.cells #[IZ a6 (m+1) c6,IZ a1 n.sectors.length c1,IZ a2 n.antennas.length c2,IZ a3 n.radios.length c3] 32 (0,0)):=by
    have h_:=blkS KL_8.out 0 (IZ a6 (m+1) c6)
    simpa using h_
   have KL_9:=IJ kl_;clear kl_;have BW_9:=IJ (BW_8.out.setCell (p:=⟨X3,0,none⟩) (by show w.heap.size≤X3.heap.size;omega) (IZ a6 (m+1) c6));have P1_9:=IJ (P1_8.out.frame (w':=(Z3.setCell ⟨X3,0,none⟩ (IZ a6 (m+1) c6))) (fun b hb=>Below.heap_setCell _ _ _ b (by have:=(IN1.out b hb).2;show b≠X3.heap.size;omega)));have P2_9:=IJ (P2_8.out.frame (w':=(Z3.setCell ⟨X3,0,none⟩ (IZ a6 (m+1) c6))) (fun b hb=>Below.heap_setCell _ _ _ b (by have:=(IN2.out b hb).2;show b≠X3.heap.size;omega)));have P3_9:=IJ (P3_8.out.frame (w':=(Z3.setCell ⟨X3,0,none⟩ (IZ a6 (m+1) c6))) (fun b hb=>Below.heap_setCell _ _ _ b (by have:=(IN3.out b hb).2;show b≠X3.heap.size;omega)));have SP_9:=IJ (SP_8.out.setFar (p:=⟨X3,0,none⟩) (Or.inr (Nat.le_refl _)) (IZ a6 (m+1) c6));have zY_9:V.heap.size≤(Z3.setCell ⟨X3,0,none⟩ (IZ a6 (m+1) c6)).heap.size:=by rw[zac];omega
   have HO_9:=IJ (zap (w':=(Z3.setCell ⟨X3,0,none⟩ (IZ a6 (m+1) c6))) HO_8.out (fun g hg=>Below.heap_setCell _ _ _ g (by have:=(zbf HO_8.out hg).1;show g≠X3.heap.size;omega)));clear KN_8 KX_8 KR_8 KL_8 BW_8 P1_8 P2_8 P3_8 SP_8;clear HO_8;generalize (Z3.setCell ⟨X3,0,none⟩ (IZ a6 (m+1) c6))=Z4 at *;have kd1:(m:Int)≤(n.sites.length:Int):=II
   have fL0:=blkC (v:=IZ a6 (m+1) c6) KL_9.out 0 rfl;have fL1:=blkC (v:=IZ a1 n.sectors.length c1) KL_9.out 1 rfl;have fL2:=blkC (v:=IZ a2 n.antennas.length c2) KL_9.out 2 rfl;have fL3:=blkC (v:=IZ a3 n.radios.length c3) KL_9.out 3 rfl;have zLz:=blkF KL_9.out;have fN_:Z4.cell? ⟨w,0,none⟩=some (IZ A0 n.sites.length C0):=(blkC (v:=IZ A0 n.sites.length C0) KN_9.out 0 rfl)
   refine zbj 6 [(0,true),(1,true),(2,true),(3,true),(4,true),(5,true)] (fun W=>(W,X3.heap.size,0,IZ a6 (m+1) c6)∧(W,w.heap.size,0,IZ A0 n.sites.length C0)) JI JI ⟨fL0,fN_⟩ (fun hHeld=>?_);refine zaj (v:=?_) rfl (fun _ _ _ h=>h) ?_ ?_
   rotate_left
   ·(intro W hSW;(try dsimp only at hSW);(go_simp<;>with_reducible rfl))
   (try simp only[Act.put,OO,OJ,OQ])
   refine zaj (v:=?_) rfl (fun _ _ _ h=>h) ?_ ?_
   rotate_left
   ·(intro W hSW;(try dsimp only at hSW);(go_simp<;>with_reducible rfl))
   (try simp only[Act.put,OO,OJ,OQ])
   refine zaj (v:=?_) rfl (fun _ _ _ h=>h) ?_ ?_
   rotate_left
   ·(intro W hSW;(try dsimp only at hSW);(go_simp<;>with_reducible rfl))
   (try simp only[Act.put,OO,OJ,OQ])
   refine zaj (v:=?_) rfl (fun _ _ _ h=>h) ?_ ?_
   rotate_left
   ·(intro W hSW;(try dsimp only at hSW);(go_simp<;>with_reducible rfl))
   (try simp only[Act.put,OO,OJ,OQ])
   refine zaj (v:=?_) rfl (fun _ _ _ h=>h) ?_ ?_
   rotate_left
   ·(intro W hSW;(try dsimp only at hSW);(go_simp<;>with_reducible rfl))
   (try simp only[Act.put,OO,OJ,OQ])
   refine zaj (v:=?_) rfl (fun _ _ _ h=>h) ?_ ?_
   rotate_left
   ·(intro W hSW;(try dsimp only at hSW);(go_simp<;>with_reducible rfl))
   (try simp only[Act.put,OO,OJ,OQ])
   refine zcp ?_;simp only[List.drop_succ_cons,List.drop_zero];clear fN_ fL0 fL1 fL2 fL3 zLz;refine zcw rfl (.tmp 59) (.tmp 63) _ rfl V.heap.size 119 ti _ 4 48 Tryz.underlying27 hi0 hi1 hi2 hi3 rfl II (IZ a6 (m+1) c6) _ _ rfl HO_9.out.drew w.heap.size (if C0=m then A0 else A0.map (·.add (m*4))) (n.sites.length-m) (C0-m) ((n.sites.flatMap DSite.vs).drop (m*4)) rfl ((RS.out.below (BW_9.out.drew)).cut hkn II) (fun u hu=>ON.out u (List.mem_of_mem_drop hu)) Q3u II (by show V.heap.size≤Z4.heap.size;omega) ?_;intro a7 c7 Z5 hown hb;have HO_10:=IJ hown;clear hown;have hbd:OI V Z4 Z5:=((Below.refl _ _).drew).trans hb;clear hb;have KN_10:=IJ ((hbd.block (w.heap.size) II).trans KN_9.out);have KX_10:=IJ ((hbd.block (w.heap.size+1) II).trans KX_9.out);have KR_10:=IJ ((hbd.block (w.heap.size+2) II).trans KR_9.out);have KL_10:=IJ ((hbd.block (X3.heap.size) II).trans KL_9.out);have BW_10:=IJ (BW_9.out.trans (hbd.mono II));have P1_10:=IJ (P1_9.out.below IN1.out II hbd);have P2_10:=IJ (P2_9.out.below IN2.out II hbd);have P3_10:=IJ (P3_9.out.below IN3.out II hbd);have SP_10:=IJ (SP_9.out.below II hbd);have zY_10:V.heap.size≤Z5.heap.size:=by have:=hbd.size;omega
   clear KN_9 KX_9 KR_9 KL_9 BW_9 P1_9 P2_9 P3_9 SP_9;clear hbd HO_9;clear kd1;have hfl:(zcn n.sites x m).flatMap DSite.vs=((n.sites.flatMap DSite.vs).take (m*4)++x.vs)++(n.sites.flatMap DSite.vs).drop (m*4):=by
    unfold zcn;rw[ins_flatv DSite.vs 4 DSite.vs_len,← List.append_assoc]
   have hle:(zcn n.sites x m).length=m+1+(n.sites.length-m):=by rw[insAt_length n.sites x hm];omega
   rw[HPOS.out] at HE;obtain⟨ax,cx,fq,ex_,oq,iq⟩:=ownsRow_own (lo:=V.heap.size) HO_10.out II (Nat.le_refl _);injection ex_ with ex1 _ ex3;subst ex1 ex3;have oq2:Own Z5 (DSite.sT (zcn n.sites x m)) (IZ a7 (m+1+(n.sites.length-m)) c7) fq:=by rw[DSite.sT_vs,hfl];exact oq
   have ov:=netJoin (n:={ n with sites:=zcn n.sites x m }) oq2 P1_10.out P2_10.out P3_10.out (fun y hy=>⟨fun h=>(by have:=(IN1.out y h).2;have:=(iq y hy).1;omega),fun h=>(by have:=(IN2.out y h).2;have:=(iq y hy).1;omega),fun h=>(by have:=(IN3.out y h).2;have:=(iq y hy).1;omega)⟩) d1 d2;have ivn:∀ y ∈ (fq++(f1++(f2++(f3++[])))),(w.heap.size+3≤y∧y<Z5.heap.size)∧y≠X3.heap.size∧y≠w.heap.size+2:=fun y hy=>by
    simp only[List.mem_append,List.not_mem_nil,or_false] at hy
    rcases hy with h|h|h|h
    ·have:=iq y h;omega
    ·have:=IN1.out y h;omega
    ·have:=IN2.out y h;omega
    ·have:=IN3.out y h;omega
   have BF:=IJ ((((((BW_10.out).setCell (p:=⟨X3,0,none⟩) (by show w.heap.size≤X3.heap.size;omega) (IZ a7 (m+1+(n.sites.length-m)) c7)).setCell (p:=⟨w.heap.size+2,0,none⟩) Q3d (IZ a7 (m+1+(n.sites.length-m)) c7)).setCell (p:=⟨w.heap.size+2,1,none⟩) Q3d (IZ a1 n.sectors.length c1)).setCell (p:=⟨w.heap.size+2,2,none⟩) Q3d (IZ a2 n.antennas.length c2)).setCell (p:=⟨w.heap.size+2,3,none⟩) Q3d (IZ a3 n.radios.length c3));have OF:=IJ ((((((ov).setFar (p:=⟨X3,0,none⟩) (fun e=>(ivn _ e).2.1 rfl) (IZ a7 (m+1+(n.sites.length-m)) c7)).setFar (p:=⟨w.heap.size+2,0,none⟩) (fun e=>(ivn _ e).2.2 rfl) (IZ a7 (m+1+(n.sites.length-m)) c7)).setFar (p:=⟨w.heap.size+2,1,none⟩) (fun e=>(ivn _ e).2.2 rfl) (IZ a1 n.sectors.length c1)).setFar (p:=⟨w.heap.size+2,2,none⟩) (fun e=>(ivn _ e).2.2 rfl) (IZ a2 n.antennas.length c2)).setFar (p:=⟨w.heap.size+2,3,none⟩) (fun e=>(ivn _ e).2.2 rfl) (IZ a3 n.radios.length c3));have IVF:Hid (In w Z5 (fq++(f1++(f2++(f3++[]))))):=fun y hy=>by have:=(ivn y hy).1;omega
   have so_:SpB Z5 V.heap.size Z5.heap.size 119 4 (IZ a7 (m+1+(n.sites.length-m)) c7) (m+1+(n.sites.length-m)):=⟨⟨_,HO_10.out⟩,fun g hg=>(zbf HO_10.out hg).2,fun h=>absurd h II⟩
   have SFQ:=IJ ((((((so_.setFar (p:=⟨X3,0,none⟩) (Or.inl (by show X3.heap.size<V.heap.size;omega)) (IZ a7 (m+1+(n.sites.length-m)) c7)).setFar (p:=⟨w.heap.size+2,0,none⟩) (Or.inl Q3e) (IZ a7 (m+1+(n.sites.length-m)) c7)).setFar (p:=⟨w.heap.size+2,1,none⟩) (Or.inl Q3e) (IZ a1 n.sectors.length c1)).setFar (p:=⟨w.heap.size+2,2,none⟩) (Or.inl Q3e) (IZ a2 n.antennas.length c2)).setFar (p:=⟨w.heap.size+2,3,none⟩) (Or.inl Q3e) (IZ a3 n.radios.length c3)).mono (lo':=w.heap.size) (hi':=Z5.heap.size) (by have:=BW_10.out.size;omega) (Nat.le_refl _));have SFO:=IJ ((((((SP_10.out.setFar (p:=⟨X3,0,none⟩) (Or.inr (by show X3.heap.size≤X3.heap.size;omega)) (IZ a7 (m+1+(n.sites.length-m)) c7)).setFar (p:=⟨w.heap.size+2,0,none⟩) (Or.inl Q36) (IZ a7 (m+1+(n.sites.length-m)) c7)).setFar (p:=⟨w.heap.size+2,1,none⟩) (Or.inl Q36) (IZ a1 n.sectors.length c1)).setFar (p:=⟨w.heap.size+2,2,none⟩) (Or.inl Q36) (IZ a2 n.antennas.length c2)).setFar (p:=⟨w.heap.size+2,3,none⟩) (Or.inl Q36) (IZ a3 n.radios.length c3)).mono (lo':=w.heap.size) (hi':=Z5.heap.size) II II);clear so_;clear ivn ov d0 d1 d2 fpm iv oq oq2 iq;have fL0:=blkC (v:=IZ a6 (m+1) c6) KL_10.out 0 rfl;have fL1:=blkC (v:=IZ a1 n.sectors.length c1) KL_10.out 1 rfl;have fL2:=blkC (v:=IZ a2 n.antennas.length c2) KL_10.out 2 rfl;have fL3:=blkC (v:=IZ a3 n.radios.length c3) KL_10.out 3 rfl;have zLz:=blkF KL_10.out;have fR0:=blkC (v:=IZ none 0 0) KR_10.out 0 rfl;have fR1:=blkC (v:=IZ none 0 0) KR_10.out 1 rfl;have fR2:=blkC (v:=IZ none 0 0) KR_10.out 2 rfl;have fR3:=blkC (v:=IZ none 0 0) KR_10.out 3 rfl;have zR:=blkF KR_10.out;have hneR:X3.heap.size≠(w.heap.size+2):=II
   go_wp2
   all_goals
    refine bodyPost_ret (v:=.tuple #[.agg #[IZ a7 (m+1+(n.sites.length-m)) c7,IZ a1 n.sectors.length c1,IZ a2 n.antennas.length c2,IZ a3 n.radios.length c3],J 0]) Q35 rfl ?_;rw[HE.out];simp only[hle]
    first|refine⟨a7,c7,a1,c1,a2,c2,a3,c3,_,rfl,BF.out,OF.out,?_⟩|refine⟨a7,c7,a1,c1,a2,c2,a3,c3,rfl,BF.out,_,OF.out,?_⟩
    simp only[zac];exact⟨IVF.out,SFQ.out,SFO.out⟩
end Go.Proofs.YtpakghepnahooaaGreatDoor
