/- From cells that fit a type to the Lean structures. -/
import Derived.Test.YtpakghepnahooaaGreatDoorTypes
import Derived.Deep.Fields
import Derived.ProofKit
set_option linter.unusedVariables false
set_option linter.unusedSimpArgs false
namespace Go.Proofs.YtpakghepnahooaaGreatDoor
open Go.RowKit Go.ChangeShapes Go.WideShapes Go.Deep
inductive Ty where
 | int
 | byte
 | str
 | sl (c:List Ty)
def flatFs (go:TypeId→Option (List Ty)) (P:Program):Nat→List Field→Option (List Ty)
 | off,[]=>some []
 | off,f::fs=>match go f.type with
  | none=>none
  | some c=>if f.offset=off∧P.cellsOf f.type=c.length then (flatFs go P (off+c.length) fs).map (c++·) else none
def flatTy (P:Program):Nat→TypeId→Option (List Ty)
 | 0,_=>none
 | fuel+1,t=>match P.underlying t with
  | some (.int .i64)=>some [.int]
  | some (.int .u8)=>some [.byte]
  | some .string=>some [.str]
  | some (.slice e)=>match flatTy P fuel e with
   | none=>none
   | some c=>if P.cellsOf e=c.length∧0<c.length then some [.sl c] else none
  | some (.struct fs)=>match flatFs (flatTy P fuel) P 0 fs.toList with
   | none=>none
   | some c=>if P.cellsOf t=c.length then some c else none
  | _=>none
mutual
def Fit:Ty→Tr→Prop
 | .int,t=>∃ n,t=intT n∧I64 n
 | .byte,t=>∃ b:UInt8,t=.lit (.int .u8 (b.toNat:Int))
 | .str,t=>∃ s,t=strT s∧s.size≤maxLen
 | .sl c,t=>∃ ess:List (List Tr),t=.sl c.length ess.flatten∧∀ es ∈ ess,FitV c es
def FitV:List Ty→List Tr→Prop
 | [],ts=>ts = []
 | y::ys,ts=>∃ t r,ts=t::r∧Fit y t∧FitV ys r
end
theorem zdx {ts:List Tr} : FitV [] ts↔ts = []:=by rw[FitV]
theorem zc8 {y:Ty} {ys:List Ty} {ts:List Tr} : FitV (y::ys) ts↔∃ t r,ts=t::r∧Fit y t∧FitV ys r:=by rw[FitV]
theorem Fit_int {t:Tr} : Fit .int t↔∃ n,t=intT n∧I64 n:=by rw[Fit]
theorem Fit_byte {t:Tr} : Fit .byte t↔∃ b:UInt8,t=.lit (.int .u8 (b.toNat:Int)):=by rw[Fit]
theorem Fit_str {t:Tr} : Fit .str t↔∃ s,t=strT s∧s.size≤maxLen:=by rw[Fit]
theorem Fit_sl {c:List Ty} {t:Tr} : Fit (.sl c) t↔∃ ess:List (List Tr),t=.sl c.length ess.flatten∧∀ es ∈ ess,FitV c es:=by rw[Fit]
theorem FitV_append:{a b:List Ty}→{x y:List Tr}→FitV a x→FitV b y→FitV (a++b) (x++y):=by
 intro a
 induction a with
 | nil=>intro b x y h k;rw[zdx] at h;subst h;exact k
 | cons t ts ih =>
  intro b x y h k;obtain⟨t',r,rfl,h1,h2⟩:=zc8.1 h;rw[List.cons_append];exact zc8.2 ⟨t',r++y,rfl,h1,ih h2 k⟩
theorem FitV_length:{a:List Ty}→{x:List Tr}→FitV a x→x.length=a.length:=by
 intro a
 induction a with
 | nil=>intro x h;rw[zdx] at h;subst h;rfl
 | cons t ts ih=>intro x h;obtain⟨t',r,rfl,_,h2⟩:=zc8.1 h;simp[ih h2]
theorem RepV_append {w:World} : {a b:List Tr}→{x y:List Value}→{f g:List Nat}→RepV w a x f→RepV w b y g→RepV w (a++b) (x++y) (f++g):=by
 intro a
 induction a with
 | nil=>intro b x y f g h k;cases x with
  | nil=>rw[show f = [] from h];exact k
  | cons _ _=>exact h.elim
 | cons t ts ih =>
  intro b x y f g h k
  cases x with
  | nil=>exact h.elim
  | cons v vs =>
   obtain⟨f1,f2,h1,h2,rfl⟩:=h;exact⟨f1,f2++g,h1,ih h2 k,by simp⟩
theorem cell_lt {w:World} {p:Addr} {v:Value} (h:w.cell? p=some v):p.block<w.heap.size:=by
 rcases Nat.lt_or_ge p.block w.heap.size with hlt|hge
 ·exact hlt
 ·unfold World.cell? at h
  rw[Array.getElem?_eq_none hge] at h;simp at h
theorem cell_spot {w:World} {p:Addr} {v:Value} (h:w.cell? p=some v):p.spot=none:=by
 unfold World.cell? at h
 split at h
 ·split at h
  ·cases h
  ·rename_i hs;cases hp:p.spot with
   | none=>rfl
   | some _=>rw[hp] at hs;simp at hs
 ·cases h
section
variable {H:Type} {enc:TypeId × Value→H} {P:Program} {w:World}
theorem open_flat:(fuel:Nat)→(t:TypeId)→(tys:List Ty)→flatTy P fuel t=some tys→(fuel':Nat)→(cs:List Value)→(x:DataW H × List MemPlace)→DataW.trod enc P w 0 (fun _=>true) true fuel' t cs=some x →
  ∃ ts fp,RepV w ts cs fp∧FitV tys ts∧∀ b ∈ fp,b<w.heap.size:=by
 intro fuel
 induction fuel with
 | zero=>intro t tys h;simp[flatTy] at h
 | succ fuel ih =>
  intro t tys h fuel' cs x hx;unfold flatTy at h
  split at h
  ·rename_i hu
   obtain rfl:[Ty.int]=tys:=by simpa using h
   obtain⟨n,rfl,_,hw⟩:=DataW.trod_int hu hx;have hb:I64 n:=by
    have:-9223372036854775808≤n∧n≤9223372036854775807:=by simpa [Lit.wf,IntKind.min,IntKind.max,IntKind.signed,IntKind.bits] using hw
    exact this
   exact⟨[intT n],[],⟨[],[],zc7.2 ⟨rfl,rfl⟩,rfl,rfl⟩,zc8.2 ⟨_,_,rfl,Fit_int.2 ⟨n,rfl,hb⟩,zdx.2 rfl⟩,fun b hb=>by simp at hb⟩
  ·rename_i hu
   obtain rfl:[Ty.byte]=tys:=by simpa using h
   obtain⟨n,rfl,_,hw⟩:=DataW.trod_int hu hx;have hb:0≤n∧n≤255:=by simpa [Lit.wf,IntKind.min,IntKind.max,IntKind.signed,IntKind.bits] using hw
   exact⟨[.lit (.int .u8 n)],[],⟨[],[],zc7.2 ⟨rfl,rfl⟩,rfl,rfl⟩,zc8.2 ⟨_,_,rfl,Fit_byte.2 ⟨UInt8.ofNat n.toNat,by rw[UInt8.toNat_ofNat',Nat.mod_eq_of_lt (by omega),Int.toNat_of_nonneg hb.1]⟩,zdx.2 rfl⟩,fun b hb=>by simp at hb⟩
  ·rename_i hu
   obtain rfl:[Ty.str]=tys:=by simpa using h
   obtain⟨s,rfl,_,hw⟩:=DataW.trod_string hu hx;exact⟨[strT s],[],⟨[],[],zc7.2 ⟨rfl,rfl⟩,rfl,rfl⟩,zc8.2 ⟨_,_,rfl,Fit_str.2 ⟨s,rfl,hw⟩,zdx.2 rfl⟩,fun b hb=>by simp at hb⟩
  ·rename_i e hu
   split at h
   ·cases h
   ·rename_i c hc
    split at h
    ·rename_i hcc
     obtain⟨hce,hc0⟩:=hcc;obtain rfl:[Ty.sl c]=tys:=by simpa using h
     rcases open_slice hu hx with ⟨rfl,_⟩|⟨a,len,cap,m,n,D,Pl,rfl,_,hl,hm,hmm,_,hat⟩
     ·refine⟨[.sl c.length []],[],⟨[],[],zb7.2 ⟨none,0,0,rfl,by simp,Nat.le_refl _,by unfold maxLen;omega,Or.inl ⟨rfl,rfl⟩⟩,rfl,rfl⟩,zc8.2 ⟨_,_,rfl,Fit_sl.2 ⟨[],rfl,fun es h=>by simp at h⟩,zdx.2 rfl⟩,fun b hb=>by simp at hb⟩
     ·have hml:len≤m:=by rw[hmm];simp<;>omega
      by_cases h0:len=0
      ·subst h0
       refine⟨[.sl c.length []],[],⟨[],[],zb7.2 ⟨some a,0,cap,rfl,by simp,hl,hm,Or.inl ⟨rfl,rfl⟩⟩,rfl,rfl⟩,zc8.2 ⟨_,_,rfl,Fit_sl.2 ⟨[],rfl,fun es h=>by simp at h⟩,zdx.2 rfl⟩,fun b hb=>by simp at hb⟩
      ·obtain⟨cs0,hc0',_⟩:=hat 0 (by omega)
       obtain⟨_,hlen0,hat0⟩:=World.cells?_some hc0';have hcell0:=hat0 0 (by omega);have hs0:cs0[0]? = some (cs0[0]'(by omega)):=List.getElem?_eq_getElem _;rw[hs0] at hcell0;have ha0:(a.add (0*P.cellsOf e)).add 0=a:=by simp[Addr.add]
       rw[ha0] at hcell0;have hsp:=cell_spot hcell0;have hblt:=cell_lt hcell0;obtain⟨b,off,spot⟩:=a;simp only at hsp;subst hsp;have key:∀ k,k≤len→∃ (ess:List (List Tr)) (f:List Nat),ess.length=k∧(∀ es ∈ ess,FitV c es)∧Reps w ess.flatten b off f∧∀ y ∈ f,y<w.heap.size:=by
        intro k
        induction k with
        | zero=>intro _;exact⟨[],[],rfl,fun es h=>by simp at h,zcx.2 rfl,fun y h=>by simp at h⟩
        | succ k ihk =>
         intro hk;obtain⟨ess,f,h1,h2,h3,h4⟩:=ihk (by omega);obtain⟨cs',hcs,htr⟩:=hat k (by omega);obtain⟨_,hlen',hat'⟩:=World.cells?_some hcs;obtain⟨ts,fp,r1,r2,r3⟩:=ih e c hc n cs' (D k,Pl k) htr;have hfl:ess.flatten.length=k*c.length:=by
          have:∀ (ess:List (List Tr)),(∀ es ∈ ess,FitV c es)→ess.flatten.length=ess.length*c.length:=by
           intro ess
           induction ess with
           | nil=>intro _;simp
           | cons es ess ih2=>intro hh;rw[List.flatten_cons,List.length_append,ih2 (fun x hx=>hh x (by simp[hx])),FitV_length (hh es (by simp)),List.length_cons,Nat.succ_mul];omega
          rw[this ess h2,h1]
         refine⟨ess++[ts],f++fp,by simp[h1],fun es hes=>?_,?_,fun y hy=>?_⟩
         ·rcases List.mem_append.1 hes with hes|hes
          ·exact h2 es hes
          ·obtain rfl:es=ts:=by simpa using hes
           exact r2
         ·rw[List.flatten_append]
          refine Reps.append h3 ?_;simp only[List.flatten_cons,List.flatten_nil,List.append_nil];refine zd4 r1 (fun j hj=>?_);have:=hat' j (by omega);rw[← this,add_add];rw[hfl,hce]
          congr 1
          unfold Addr.add
          split
          ·rename_i hz
           have:k*c.length=0:=by omega
           have:j=0:=by omega
           subst this;simp<;>omega
          ·simp<;>omega
         ·rcases List.mem_append.1 hy with hy|hy
          ·exact h4 y hy
          ·exact r3 y hy
       obtain⟨ess,f,h1,h2,h3,h4⟩:=key len (Nat.le_refl _);have hfl:ess.flatten.length=len*c.length:=by
        have:∀ (ess:List (List Tr)),(∀ es ∈ ess,FitV c es)→ess.flatten.length=ess.length*c.length:=by
         intro ess
         induction ess with
         | nil=>intro _;simp
         | cons es ess ih2=>intro hh;rw[List.flatten_cons,List.length_append,ih2 (fun x hx=>hh x (by simp[hx])),FitV_length (hh es (by simp)),List.length_cons,Nat.succ_mul];omega
        rw[this ess h2,h1]
       refine⟨[.sl c.length ess.flatten],b::f,⟨b::f,[],zb7.2 ⟨_,len,cap,rfl,hfl,hl,hm,Or.inr ⟨b,off,f,?_,rfl,rfl,h3⟩⟩,rfl,by simp⟩,zc8.2 ⟨_,_,rfl,Fit_sl.2 ⟨ess,rfl,h2⟩,zdx.2 rfl⟩,fun y hy=>?_⟩
       ·intro he
        rw[he] at hfl;have:0<len*c.length:=Nat.mul_pos (by omega) hc0;simp at hfl;omega
       ·rcases List.mem_cons.1 hy with rfl|hy
        ·exact hblt
        ·exact h4 y hy
    ·cases h
  ·rename_i fs hu
   split at h
   ·cases h
   ·rename_i c hc
    split at h
    ·rename_i hcc
     obtain rfl:c=tys:=by simpa using h
     obtain⟨xs,n,_,_,hlen,hxl,hf⟩:=DataW.trod_struct hu hx;have key:∀ (l:List Field) (off:Nat) (c:List Ty),flatFs (flatTy P fuel) P off l=some c→(∀ f ∈ l,∃ y,DataW.trod enc P w 0 (fun _=>true) true n f.type ((cs.drop f.offset).take (P.cellsOf f.type))=some y)→off+c.length≤cs.length →
       ∃ ts fp,RepV w ts ((cs.drop off).take c.length) fp∧FitV c ts∧∀ b ∈ fp,b<w.heap.size:=by
      intro l
      induction l with
      | nil=>intro off c hc _ _;simp[flatFs] at hc;subst hc;exact⟨[],[],by simp[RepV],zdx.2 rfl,fun b h=>by simp at h⟩
      | cons f l ihl =>
       intro off c hc hall hle;unfold flatFs at hc
       split at hc
       ·cases hc
       ·rename_i c1 hc1
        split at hc
        ·rename_i hoff
         obtain⟨ho,hco⟩:=hoff;simp only[Option.map_eq_some_iff] at hc;obtain⟨c2,hc2,rfl⟩:=hc;obtain⟨y,hy⟩:=hall f (by simp);obtain⟨ts1,fp1,r1,r2,r3⟩:=ih f.type c1 hc1 n _ y hy;obtain⟨ts2,fp2,q1,q2,q3⟩:=ihl (off+c1.length) c2 hc2 (fun g hg=>hall g (by simp[hg])) (by simp at hle;omega);rw[ho,hco] at r1;refine⟨ts1++ts2,fp1++fp2,?_,FitV_append r2 q2,fun b hb=>?_⟩
         ·have:=RepV_append r1 q1
          have e:(cs.drop off).take (c1++c2).length=(cs.drop off).take c1.length++(cs.drop (off+c1.length)).take c2.length:=by
           rw[List.length_append,List.take_add,List.drop_drop]
          rw[e];exact this
         ·rcases List.mem_append.1 hb with hb|hb
          ·exact r3 b hb
          ·exact q3 b hb
        ·cases hc
     obtain⟨ts,fp,r1,r2,r3⟩:=key fs.toList 0 c hc (fun f hf'=>by
      obtain⟨i,hi,rfl⟩:=List.getElem_of_mem hf';have hi':i<fs.size:=by simpa using hi
      have h1:=hf i fs[i] (Array.getElem?_eq_getElem hi');have h2:xs[i]? = some (xs[i]'(by omega)):=List.getElem?_eq_getElem _
      exact⟨_,by rw[Array.getElem_toList,h1,h2]⟩) (by rw[hlen,hcc];omega)
     rw[List.drop_zero,← hcc,← hlen,List.take_length] at r1;exact⟨ts,fp,r1,r2,r3⟩
    ·cases h
  ·cases h
end
theorem RepV.rd {w:World} {B:Nat} : {ts:List Tr}→{vs:List Value}→{fp:List Nat}→RepV w ts vs fp→(∀ b ∈ fp,b<B)→RdV B w ts vs:=by
 intro ts
 induction ts with
 | nil=>intro vs fp h _;cases vs with
  | nil=>trivial
  | cons _ _=>exact h.elim
 | cons t ts ih =>
  intro vs fp h hf
  cases vs with
  | nil=>exact h.elim
  | cons v vs =>
   obtain⟨f,g,h1,h2,rfl⟩:=h;exact⟨⟨f,h1,fun b hb=>hf b (by simp[hb])⟩,ih h2 (fun b hb=>hf b (by simp[hb]))⟩
theorem RdV.length {w:World} {B:Nat} : {ts:List Tr}→{vs:List Value}→RdV B w ts vs→ts.length=vs.length:=by
 intro ts
 induction ts with
 | nil=>intro vs h;cases vs with
  | nil=>rfl
  | cons _ _=>exact h.elim
 | cons t ts ih =>
  intro vs h
  cases vs with
  | nil=>exact h.elim
  | cons v vs=>simp[ih h.2]
section
variable {H:Type} {enc:TypeId × Value→H} {P:Program}
theorem post_of_below {f:Func} {s:ChangeSpec} {apart fresh handsOn again:Bool} {W W':World} {args:Array Value} {v:Value} {ds gs:List (DataW H)} {before pa pv:List MemPlace}
  (hW:DataW.Whole enc P f.params.toList s.vars apart W args.toList ds gs before)
  (hres:∀ (b:Nat) (sp:Nat→Bool) (hd:Bool),DataW.TrodAll enc P W' b sp hd f.resultTypes.toList (v.resultList f.resultTypes.size) (s.fn H (ds++gs)).results [])
  (hargs:∀ sp:Nat→Bool,(∀ p ∈ before,sp p.block=true)→DataW.TrodAll enc P W' 0 sp true f.params.toList args.toList (s.fn H (ds++gs)).args pa)
  (hvars:∀ sp:Nat→Bool,(∀ p ∈ before,sp p.block=true)→DataW.TrodVars enc P W' sp s.vars (s.fn H (ds++gs)).vars pv)
  (hps:before=pa++pv) (hb:Below W.heap.size W W')
  (hok:∀ (j:Nat) (t:TypeId) (r:Value),f.resultTypes[j]? = some t→(v.resultList f.resultTypes.size)[j]? = some r→Value.okWide P W' .any 0 t r) :
  s.post enc P f apart fresh handsOn again W args v W':=by
 have hlt:∀ p ∈ before,p.block<W.heap.size:=fun p hp=>hW.lt p hp
 have hold:∀ p ∈ before,(fun b=>decide (b<W.heap.size)) p.block=true:=fun p hp=>by simpa using hlt p hp
 refine⟨ds,gs,before,[],pa,pv,hW,hres _ _ _,hargs _ hold,hvars _ hold,World.keptBut_mono (fun p hp=>⟨hp,?_⟩) (hb.frame (· ∈ before)),fun _=>?_⟩
 ·rw[hps,List.mem_append] at hp
  exact Or.inr hp
 ·obtain⟨_,_,_,_,_,hz,hn⟩:=hW
  refine⟨hok,_,_,([]++pa)++pv,⟨[]++pa,pv,trodAll_append (hargs _ (fun _ _=>rfl)) (hres _ _ _),hvars _ (fun _ _=>rfl),rfl,?_,?_⟩,?_⟩
  ·intro b off hp
   have hin:MemPlace.cell b off ∈ before:=by rw[hps];simpa using hp
   rw[hb.frozen (hlt _ hin)];exact hz b off hin
  ·intro ha
   have:=hn ha;rw[hps] at this
   simpa using this
  ·intro p hp _
   rw[hps]
   simpa using hp
end
end Go.Proofs.YtpakghepnahooaaGreatDoor
namespace Go.Proofs.YtpakghepnahooaaGreatDoor
open Go.RowKit
theorem fits_of {α:Type} (g:α→List Tr) (ok:α→Prop) (ys:List Ty) (hfit:∀ ts,FitV ys ts→∃ x,ts=g x∧ok x) {t:Tr} (h:Fit (.sl ys) t):∃ l:List α,t=.sl ys.length (l.flatMap g)∧∀ x ∈ l,ok x:=by
 obtain⟨ess,rfl,hes⟩:=Fit_sl.1 h;have key:∀ (ess:List (List Tr)),(∀ es ∈ ess,FitV ys es)→∃ l:List α,ess.flatten=l.flatMap g∧∀ x ∈ l,ok x:=by
  intro ess
  induction ess with
  | nil=>intro _;exact⟨[],rfl,fun x h=>by simp at h⟩
  | cons es ess ih =>
   intro hh;obtain⟨l,h1,h2⟩:=ih (fun x hx=>hh x (by simp[hx]));obtain⟨x,rfl,hx⟩:=hfit es (hh es (by simp));refine⟨x::l,by rw[List.flatten_cons,List.flatMap_cons,h1],fun y hy=>?_⟩
   rcases List.mem_cons.1 hy with rfl|hy
   ·exact hx
   ·exact h2 y hy
 obtain⟨l,h1,h2⟩:=key ess hes;exact⟨l,by rw[h1],h2⟩
theorem fit_bytes {t:Tr} (h:Fit (.sl [.byte]) t):∃ l:List UInt8,t=.sl 1 (l.map fun b=>.lit (.int .u8 (b.toNat:Int))):=by
 obtain⟨l,rfl,hk⟩:=fits_of (fun b:UInt8=>[Tr.lit (.int .u8 (b.toNat:Int))]) (fun _=>True) [.byte] (fun ts h=>by
  obtain⟨t,r,rfl,h1,h2⟩:=zc8.1 h;obtain⟨n,rfl⟩:=Fit_byte.1 h1;rw[zdx] at h2;subst h2
  exact⟨n,rfl,trivial⟩) h
 exact⟨l,by rw[map_flat];rfl⟩
def DPoint.ty:List Ty:=[.int,.int]
def DMode.ty:List Ty:=[.int,.int]
def DEnd.ty:List Ty:=[.int,.int,.int]
def DSite.ty:List Ty:=[.str,.str,.int,.int]
def DSector.ty:List Ty:=[.str,.str,.str,.str,.str,.int,.int,.int,.int]
def DAntenna.ty:List Ty:=[.str,.int,.sl [.int],.sl [.int]]
def DRadio.ty:List Ty:=[.str,.int,.int,.int,.int,.sl DMode.ty]
def DNetwork.ty:List Ty:=[.sl DSite.ty,.sl DSector.ty,.sl DAntenna.ty,.sl DRadio.ty]
def DTerrain.ty:List Ty:=[.int,.int,.int,.sl [.int],.sl [.int]]
def DRaster.ty:List Ty:=[.int,.int,.int,.sl [.int],.sl [.int]]
end Go.Proofs.YtpakghepnahooaaGreatDoor
