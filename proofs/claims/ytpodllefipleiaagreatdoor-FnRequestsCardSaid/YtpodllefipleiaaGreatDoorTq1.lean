/- Rows of small requests whose cells are stored one by one, and contracts of the reference: l27Find, FileRequest (some list that has the request). Conditions: bounded lengths. -/
import Derived.Test.YtpodllefipleiaaGreatDoorTq0
set_option linter.unusedVariables false
set_option linter.unusedSimpArgs false
namespace Go.Proofs.YtpodllefipleiaaGreatDoor
open Go.RowKit
set_option maxHeartbeats 2000000
def colOk (j:Nat) (u:Value):Prop:=if j<3 then ∃ s:ByteArray,u=.string s∧s.size≤16 else if j=5 then ∃ n:Int,u=.int .i64 n∧(0≤n∧n≤1000000000) else ∃ n:Int,u=.int .i64 n∧SmN n
structure RowR (w:World) (b off n:Nat):Prop where
 at_:∀ m,m<n*8→∃ u,colOk (m % 8) u∧w.cell? ⟨b,off+m,none⟩=some u
 open_:∀ i,w.frozen? ⟨b,i,none⟩=false
theorem RowR.frame {w w':World} {b off n:Nat} (h:RowR w b off n) (hf:w'.heap[b]? = w.heap[b]?):RowR w' b off n :=
 ⟨fun i hi=>by
  obtain⟨x,hx,e⟩:=h.at_ i hi
  exact⟨x,hx,by rw[World.cell?_of_block (w:=w) hf];exact e⟩,fun i=>by rw[World.frozen?_of_block (w:=w) hf];exact h.open_ i⟩
theorem RowR.set {w:World} {b off n:Nat} (h:RowR w b off n) (j:Nat) (hj:j<n*8) (u:Value) (hu:colOk (j % 8) u):RowR (w.setCell ⟨b,off+j,none⟩ u) b off n:=by
 refine⟨fun i hi=>?_,fun i=>by have:=h.open_ i;simp[go_sem,this]⟩;obtain⟨y,hy,e⟩:=h.at_ i hi
 by_cases c:i=j
 ·subst c
  exact⟨u,hu,by simp[go_sem,e]⟩
 ·exact⟨y,hy,by
   have c':¬ (off+i=off+j):=by omega
   simp[go_sem,e,c']⟩
theorem SmR.col {x:DRequest} (h:SmR x) (j:Nat) {u:Value} (hu:x.vs[j]? = some u):colOk j u:=by
 unfold DRequest.vs at hu
 match j,hu with
 | 0,hu=>simp at hu;subst hu;exact⟨_,rfl,h.id⟩
 | 1,hu=>simp at hu;subst hu;exact⟨_,rfl,h.applicant⟩
 | 2,hu=>simp at hu;subst hu;exact⟨_,rfl,h.partner⟩
 | 3,hu=>simp at hu;subst hu;exact⟨_,rfl,h.low⟩
 | 4,hu=>simp at hu;subst hu;exact⟨_,rfl,h.high⟩
 | 5,hu=>simp at hu;subst hu;exact⟨_,rfl,h.filed⟩
 | 6,hu=>simp at hu;subst hu;exact⟨_,rfl,h.deadline⟩
 | 7,hu=>simp at hu;subst hu;exact⟨_,rfl,h.state⟩
 | (n+8),hu=>simp at hu
theorem RowR.get {w:World} {b off n:Nat} (h:RowR w b off n) (i:Nat) (hi:i<n):∃ x:DRequest,SmR x∧∀ j u,x.vs[j]? = some u→w.cell? ⟨b,off+(i*8+j),none⟩=some u:=by
 have g:∀ j,j<8→∃ u,colOk j u∧w.cell? ⟨b,off+(i*8+j),none⟩=some u:=fun j hj=>by
  have:=h.at_ (i*8+j) (by omega)
  rwa [show (i*8+j) % 8=j by omega] at this
 obtain⟨u0,⟨s0,rfl,h0⟩,e0⟩:=g 0 (by omega);obtain⟨u1,⟨s1,rfl,h1⟩,e1⟩:=g 1 (by omega);obtain⟨u2,⟨s2,rfl,h2⟩,e2⟩:=g 2 (by omega);obtain⟨u3,⟨n3,rfl,h3⟩,e3⟩:=g 3 (by omega);obtain⟨u4,⟨n4,rfl,h4⟩,e4⟩:=g 4 (by omega);obtain⟨u5,⟨n5,rfl,h5⟩,e5⟩:=g 5 (by omega);obtain⟨u6,⟨n6,rfl,h6⟩,e6⟩:=g 6 (by omega);obtain⟨u7,⟨n7,rfl,h7⟩,e7⟩:=g 7 (by omega);refine⟨⟨s0,s1,s2,n3,n4,n5,n6,n7⟩,⟨h0,h1,h2,h3,h4,h5,h6,h7⟩,fun j u hu=>?_⟩;unfold DRequest.vs at hu
 match j,hu with
 | 0,hu=>simp at hu;subst hu;exact e0
 | 1,hu=>simp at hu;subst hu;exact e1
 | 2,hu=>simp at hu;subst hu;exact e2
 | 3,hu=>simp at hu;subst hu;exact e3
 | 4,hu=>simp at hu;subst hu;exact e4
 | 5,hu=>simp at hu;subst hu;exact e5
 | 6,hu=>simp at hu;subst hu;exact e6
 | 7,hu=>simp at hu;subst hu;exact e7
 | (n+8),hu=>simp at hu
theorem RowR.vals {w:World} {b off:Nat} : (n:Nat)→RowR w b off n→∃ l:List DRequest,l.length=n∧(∀ x ∈ l,SmR x)∧RowV w b off (l.flatMap DRequest.vs)
 | 0,h=>⟨[],rfl,fun x hx=>by simp at hx,⟨fun j u hu=>by simp at hu,h.open_⟩⟩
 | n+1,h=>by
  obtain⟨l,hl,hk,hv⟩:=RowR.vals n ⟨fun i hi=>h.at_ i (by omega),h.open_⟩;obtain⟨x,hx,hc⟩:=h.get n (by omega);have hn:(l.flatMap DRequest.vs).length=n*8:=by rw[zay DRequest.vs 8 DRequest.vs_len,hl]
  refine⟨l++[x],by simp[hl],fun y hy=>?_,⟨fun j u hu=>?_,h.open_⟩⟩
  ·rcases List.mem_append.1 hy with hy|hy
   ·exact hk y hy
   ·obtain rfl:y=x:=by simpa using hy
    exact hx
  ·rw[List.flatMap_append] at hu
   by_cases c:j<n*8
   ·rw[List.getElem?_append_left (by rw[hn];exact c)] at hu
    exact hv.cell j u hu
   ·rw[List.getElem?_append_right (by rw[hn];omega),hn] at hu
    have hu2:x.vs[j-n*8]? = some u:=by simpa using hu
    have:=hc _ _ hu2
    rwa [show n*8+(j-n*8)=j by omega] at this
def RowZ (lo:Nat) (w:World) (a:Option Addr) (n c:Nat):Prop:=n≤c∧c≤maxLen∧(0<n→∃ b off,a=some ⟨b,off,none⟩∧lo≤b∧b<w.heap.size∧RowR w b off n)
theorem RowZ.chg {lo b:Nat} {w w':World} {a:Option Addr} {n c:Nat} (h:RowZ lo w a n c) (hb:b<lo) (hc:Chg [b] w w'):RowZ lo w' a n c:=by
 obtain⟨h1,h2,h3⟩:=h;refine⟨h1,h2,fun hn=>?_⟩;obtain⟨b',off,e,g1,g2,g3⟩:=h3 hn;exact⟨b',off,e,g1,Nat.lt_of_lt_of_le g2 hc.size,g3.frame (hc.block b' g2 (by simp<;>omega))⟩
theorem RowZ.below {lo:Nat} {w w':World} {a:Option Addr} {n c:Nat} (h:RowZ lo w a n c) (hb:Below w.heap.size w w'):RowZ lo w' a n c:=by
 obtain⟨h1,h2,h3⟩:=h;refine⟨h1,h2,fun hn=>?_⟩;obtain⟨b',off,e,g1,g2,g3⟩:=h3 hn;exact⟨b',off,e,g1,Nat.lt_of_lt_of_le g2 hb.size,g3.frame (hb.block b' g2)⟩
theorem RowZ.of_own {lo:Nat} {w:World} {l:List DRequest} {a:Option Addr} {c:Nat} {fp:List Nat} (h:Own w (DRequest.sT l) (.slice a l.length c) fp) (hi:In lo w.heap.size fp) (hk:∀ x ∈ l,SmR x):RowZ lo w a l.length c:=by
 rw[DRequest.sT_vs] at h;obtain⟨_,h2,h3,h4⟩:=h.rowV;refine⟨h2,h3,fun hn=>?_⟩;have hlen:=zay DRequest.vs 8 DRequest.vs_len l;obtain⟨b,off,ha,rfl,hv⟩:=h4 (fun e=>by rw[e] at hlen;simp at hlen;omega);refine⟨b,off,ha,(hi b (by simp)).1,(hi b (by simp)).2,fun m hm=>?_,hv.free⟩;have hm':m<(l.flatMap DRequest.vs).length:=by rw[hlen];exact hm
 refine⟨_,?_,hv.at_ m hm'⟩;have hq:m / 8<l.length:=by omega
 have hA:((l.take (m / 8)).flatMap DRequest.vs).length=m / 8*8:=by rw[zay DRequest.vs 8 DRequest.vs_len,List.length_take,Nat.min_eq_left (by omega)]
 have he:(l.flatMap DRequest.vs)[m]? = l[m / 8].vs[m % 8]?:=by
  rw[flatSplit DRequest.vs l (m / 8) hq,List.getElem?_append_right (by omega),hA,List.getElem?_append_left (by rw[DRequest.vs_len];omega),show m-m / 8*8=m % 8 by omega]
 rw[List.getElem?_eq_getElem hm'] at he;exact (hk _ (List.getElem_mem hq)).col _ he.symm
theorem RowZ.own {lo:Nat} {w:World} {a:Option Addr} {n c:Nat} (h:RowZ lo w a n c):∃ (l:List DRequest) (fp:List Nat),l.length=n∧(∀ x ∈ l,SmR x)∧Own w (DRequest.sT l) (.slice a n c) fp∧In lo w.heap.size fp:=by
 obtain⟨h1,h2,h3⟩:=h
 rcases Nat.eq_zero_or_pos n with rfl|hn
 ·exact⟨[],[],rfl,fun x hx=>by simp at hx,⟨za5.2 ⟨_,0,c,rfl,rfl,h1,h2,Or.inl ⟨rfl,rfl⟩⟩,List.nodup_nil,fun b h=>by simp at h⟩,In.nil⟩
 ·obtain⟨b,off,rfl,g1,g2,hr⟩:=h3 hn
  obtain⟨l,hl,hk,hv⟩:=RowR.vals n hr;obtain⟨fp,ho,hf⟩:=hv.own (k:=8) (n:=n) (c:=c) (by rw[zay DRequest.vs 8 DRequest.vs_len,hl]) h1 h2;exact⟨l,fp,hl,hk,by rw[DRequest.sT_vs];exact ho,fun x hx=>by rw[hf x hx];exact⟨g1,g2⟩⟩
theorem l27Find_any (l:List DRequest) (id:ByteArray) (v:Value) (B:Nat) (w:World) (h:Rd B w (DRequest.sT l) v) (hB:B≤w.heap.size) (hn:l.length≤1099511627776) :
  Calls Tryz.prog 81 #[v,.string id] w fun e w'=>e=.returned (.int .i64 (za4 (fun x:DRequest=>eqS x.id id) l))∧w=w':=by
 obtain⟨a,c,rfl,hnc,hcm,hcl⟩:=DRequest.rd h;have HCL:=Lib.hid hcl;clear h hcl;have lni:(l.length:Int)≤1099511627776:=by omega
 go_enter Tryz.func81,Tryz.ntmps81;go_wp2
 go_loop [5] (fun i=>∃ k:Nat,k≤l.length∧i=.int .i64 k∧(l.take k).any (fun x:DRequest=>eqS x.id id)=false) (fun i=>l.length-(intOf i).toNat)
 case atStart=>exact⟨0,Nat.zero_le _,rfl,by simp⟩
 case round =>
  obtain⟨k,hk,rfl,hno⟩:=hrel;have HN:=Lib.hid hno;clear hno
  by_cases hlt:k<l.length
  ·obtain⟨b,off,rfl,hbl,hat⟩:=HCL.out (by omega)
   obtain⟨s0,_⟩:=hat k hlt;have HT:Hid ((l.take (k+1)).any (fun x:DRequest=>eqS x.id id)=((l.take k).any (fun x:DRequest=>eqS x.id id) || eqS l[k].id id)):=any_take_succ _ l k hlt;have HA:Hid (eqS l[k].id id=true→za4 (fun x:DRequest=>eqS x.id id) l=k):=fun h=>zce _ l k hlt h HN.out
   clear hat
   by_cases hq:eqS l[k].id id=true
   ·have hr:=HA.out hq
    have HR:=Lib.hid hr;have hq2:(l[k].id.toList == id.toList)=true:=hq;clear hq hr HA HT;generalize l[k].id=nm at *;go_wp2;go_ret;exact⟨by rw[HR.out];rfl,rfl⟩
   ·have hq':eqS l[k].id id=false:=Bool.eq_false_iff.2 hq
    have hq2:(l[k].id.toList == id.toList)=false:=hq';have HN2:Hid ((l.take (k+1)).any (fun x:DRequest=>eqS x.id id)=false):=by show _=_;rw[HT.out,HN.out,hq'];rfl
    clear hq hq' HA HT;generalize l[k].id=nm at *;go_wp2
    go_round
    case rel=>exact⟨k+1,by omega,by go_num,HN2.out⟩
    case measure=>simp[intOf];omega
  ·obtain rfl:k=l.length:=by omega
   have h2:=HN.out;rw[List.take_length] at h2;have HR:=Lib.hid (firstIdx_none _ l h2);clear h2;go_wp2;go_ret;exact⟨by rw[HR.out];rfl,rfl⟩
end Go.Proofs.YtpodllefipleiaaGreatDoor
