/- Words for memory, continued: owned structures, rows that are filled in a loop, marks. Plain lemmas; no program. -/
import Derived.Test.YtpodllefipleiaaGreatDoorMem
set_option linter.unusedVariables false
set_option linter.unusedSimpArgs false
namespace Go.Proofs.YtpodllefipleiaaGreatDoor
open Go.RowKit
def RepV (w:World):List Tr→List Value→List Nat→Prop
 | [],[],fp=>fp = []
 | t::ts,v::vs,fp=>∃ f g,Rep w t v f∧RepV w ts vs g∧fp=f++g
 | _,_,_=>False
theorem RepV.frame {w w':World} : {ts:List Tr}→{vs:List Value}→{fp:List Nat}→RepV w ts vs fp→(∀ b ∈ fp,w'.heap[b]? = w.heap[b]?)→RepV w' ts vs fp:=by
 intro ts
 induction ts with
 | nil=>intro vs fp h _;cases vs<;>exact h
 | cons t ts ih =>
  intro vs fp h hf
  cases vs with
  | nil=>exact h
  | cons v vs =>
   obtain⟨f,g,h1,h2,rfl⟩:=h;exact⟨f,g,h1.frame (fun b hb=>hf b (by simp[hb])),ih h2 (fun b hb=>hf b (by simp[hb])),rfl⟩
theorem RepV.length {w:World} : {ts:List Tr}→{vs:List Value}→{fp:List Nat}→RepV w ts vs fp→ts.length=vs.length:=by
 intro ts
 induction ts with
 | nil=>intro vs fp h;cases vs with
  | nil=>rfl
  | cons _ _=>exact h.elim
 | cons t ts ih =>
  intro vs fp h
  cases vs with
  | nil=>exact h.elim
  | cons v vs=>obtain⟨f,g,_,h2,_⟩:=h;simp[ih h2]
theorem RepV.lits {w:World} : (vs:List Value)→RepV w (vs.map .lit) vs []:=by
 intro vs
 induction vs with
 | nil=>rfl
 | cons v vs ih=>exact⟨[],[],zbt.2 ⟨rfl,rfl⟩,ih,rfl⟩
def setRow (w:World) (B off:Nat):List Value→World
 | []=>w
 | v::vs=>setRow (w.setCell ⟨B,off,none⟩ v) B (off+1) vs
theorem zcc (B:Nat):(vs:List Value)→(w:World)→(off i:Nat)→i≠B→(setRow w B off vs).heap[i]? = w.heap[i]?:=by
 intro vs
 induction vs with
 | nil=>intro w off i _;rfl
 | cons v vs ih =>
  intro w off i hi;show (setRow (w.setCell ⟨B,off,none⟩ v) B (off+1) vs).heap[i]? = _
  rw[ih _ _ _ hi];exact Below.heap_setCell w ⟨B,off,none⟩ v i hi
theorem row_setCell {w:World} {B E:Nat} {cs:Array Value} {fz:Nat × Nat} (h:w.heap[B]? = some (.cells cs E fz)) (i:Nat) (v:Value):(w.setCell ⟨B,i,none⟩ v).heap[B]? = some (.cells (cs.setIfInBounds i v) E fz):=by
 simp[World.setCell,Array.getElem?_modify,h]
theorem zby (w:World) (a:Addr) (v:Value):(w.setCell a v).heap.size=w.heap.size:=by simp[World.setCell]
theorem row_setRow {B E:Nat} : (vs:List Value)→(w:World)→(off:Nat)→(cs:Array Value)→w.heap[B]? = some (.cells cs E (0,0)) →
  ∃ cs',(setRow w B off vs).heap[B]? = some (.cells cs' E (0,0))∧cs'.size=cs.size∧(∀ i,i<off→cs'[i]? = cs[i]?)∧(∀ i,off+vs.length≤i→cs'[i]? = cs[i]?)∧(off+vs.length≤cs.size→∀ j,j<vs.length→cs'[off+j]? = vs[j]?):=by
 intro vs
 induction vs with
 | nil=>intro w off cs h;exact⟨cs,h,rfl,fun _ _=>rfl,fun _ _=>rfl,fun _ j hj=>by simp at hj⟩
 | cons v vs ih =>
  intro w off cs h;obtain⟨cs',h1,h2,h3,h4,h5⟩:=ih (w.setCell ⟨B,off,none⟩ v) (off+1) _ (row_setCell h off v);refine⟨cs',h1,by rw[h2];simp,fun i hi=>?_,fun i hi=>?_,fun hl j hj=>?_⟩
  ·rw[h3 i (by omega),Array.getElem?_setIfInBounds,if_neg (by omega)]
  ·rw[h4 i (by simp at hi;omega),Array.getElem?_setIfInBounds,if_neg (by simp at hi;omega)]
  ·cases j with
   | zero =>
    have hs:off<cs.size:=by simp at hl;omega
    rw[Nat.add_zero,h3 off (by omega),Array.getElem?_setIfInBounds,if_pos rfl];simp[hs]
   | succ j =>
    have:=h5 (by simp at hl ⊢;omega) j (by simpa using hj);rw[show off+(j+1)=off+1+j from by omega,this];simp
theorem zae {w:World} {B E:Nat} {cs:Array Value} {fz:Nat × Nat} (h:w.heap[B]? = some (.cells cs E fz)) (i:Nat):w.cell? ⟨B,i,none⟩=cs[i]?:=by
 simp[World.cell?,h]
theorem zbs {w:World} {B E:Nat} {cs:Array Value} (h:w.heap[B]? = some (.cells cs E (0,0))) (i:Nat):w.frozen? ⟨B,i,none⟩=false:=by
 simp[World.frozen?,h]
def Free (w:World) (fp:List Nat):Prop:=∀ b ∈ fp,∀ i,w.frozen? ⟨b,i,none⟩=false
theorem Free.frame {w w':World} {fp:List Nat} (h:Free w fp) (hf:∀ b ∈ fp,w'.heap[b]? = w.heap[b]?):Free w' fp:=fun b hb i=>by
 rw[World.frozen?_of_block (w:=w) (hf b hb)];exact h b hb i
def In (lo hi:Nat) (fp:List Nat):Prop:=∀ b ∈ fp,lo≤b∧b<hi
theorem In.nil {lo hi:Nat} : In lo hi []:=fun b h=>by simp at h
theorem In.append {lo hi:Nat} {f g:List Nat} (h:In lo hi f) (k:In lo hi g):In lo hi (f++g):=fun b hb=>by
 rcases List.mem_append.1 hb with hb|hb
 ·exact h b hb
 ·exact k b hb
theorem In.mono {lo hi lo' hi':Nat} {f:List Nat} (h:In lo hi f) (h1:lo'≤lo) (h2:hi≤hi'):In lo' hi' f:=fun b hb=>⟨Nat.le_trans h1 (h b hb).1,Nat.lt_of_lt_of_le (h b hb).2 h2⟩
structure Own (w:World) (t:Tr) (v:Value) (fp:List Nat):Prop where
 rep:Rep w t v fp
 nd:fp.Nodup
 free:Free w fp
theorem Own.frame {w w':World} {t:Tr} {v:Value} {fp:List Nat} (h:Own w t v fp) (hf:∀ b ∈ fp,w'.heap[b]? = w.heap[b]?):Own w' t v fp:=⟨h.rep.frame hf,h.nd,h.free.frame hf⟩
theorem Own.below {w w':World} {t:Tr} {v:Value} {fp:List Nat} {lo hi B:Nat} (h:Own w t v fp) (hi':In lo hi fp) (hB:hi≤B) (hb:Below B w w'):Own w' t v fp :=
 h.frame fun b hx=>hb.block b (by have:=(hi' b hx).2;omega)
theorem Own.rd {w:World} {t:Tr} {v:Value} {fp:List Nat} {lo hi:Nat} (h:Own w t v fp) (hi':In lo hi fp):Rd hi w t v:=⟨fp,h.rep,fun b hb=>(hi' b hb).2⟩
theorem Own.lit {w:World} {v:Value} : Own w (.lit v) v []:=⟨zbt.2 ⟨rfl,rfl⟩,List.nodup_nil,fun b h=>by simp at h⟩
structure Fill (w:World) (B E m:Nat) (ts:List Tr) (f:List Nat):Prop where
 row:∃ cs,w.heap[B]? = some (.cells cs E (0,0))∧cs.size=m
 reps:Reps w ts B 0 f
 nd:f.Nodup
 nb:B ∉ f
 free:Free w f
theorem Fill.start (w:World) (cs:Array Value) (E:Nat):Fill (w.alloc (.cells cs E)) w.heap.size E cs.size [] [] :=
 ⟨⟨cs,by show (w.heap.push _)[w.heap.size]? = _;simp,rfl⟩,zbo.2 rfl,List.nodup_nil,by simp,fun b h=>by simp at h⟩
theorem Fill.lt {w:World} {B E m:Nat} {ts:List Tr} {f:List Nat} (h:Fill w B E m ts f):B<w.heap.size:=by
 obtain⟨cs,h,_⟩:=h.row
 rcases Nat.lt_or_ge B w.heap.size with hlt|hge
 ·exact hlt
 ·rw[Array.getElem?_eq_none hge] at h;cases h
theorem Fill.open_ {w:World} {B E m:Nat} {ts:List Tr} {f:List Nat} (h:Fill w B E m ts f) (j:Nat):w.frozen? ⟨B,j,none⟩=false:=by
 obtain⟨cs,h,_⟩:=h.row;exact zbs h j
theorem Fill.frame {w w':World} {B E m:Nat} {ts:List Tr} {f:List Nat} (h:Fill w B E m ts f) (hB:w'.heap[B]? = w.heap[B]?) (hf:∀ b ∈ f,w'.heap[b]? = w.heap[b]?):Fill w' B E m ts f :=
 ⟨by rw[hB];exact h.row,h.reps.frame hB hf,h.nd,h.nb,h.free.frame hf⟩
theorem Fill.below {w w':World} {B E m lo:Nat} {ts:List Tr} {f:List Nat} (h:Fill w B E m ts f) (hi:In lo w.heap.size f) (hb:Below w.heap.size w w'):Fill w' B E m ts f :=
 h.frame (hb.block B h.lt) (fun b hx=>hb.block b (hi b hx).2)
theorem zbw {w:World} {B:Nat} : {us:List Tr}→{vs:List Value}→{g:List Nat}→{off:Nat}→RepV w us vs g→(∀ j,j<vs.length→w.cell? ⟨B,off+j,none⟩=vs[j]?)→Reps w us B off g:=by
 intro us
 induction us with
 | nil=>intro vs g off h _;cases vs with
  | nil=>exact zbo.2 h
  | cons _ _=>exact h.elim
 | cons t ts ih =>
  intro vs g off h hc
  cases vs with
  | nil=>exact h.elim
  | cons v vs =>
   obtain⟨f,g',h1,h2,rfl⟩:=h;refine za0.2 ⟨v,f,g',by simpa using hc 0 (by simp),h1,ih h2 (fun j hj=>?_),rfl⟩;have:=hc (j+1) (by simpa using hj);rw[show off+1+j=off+(j+1) from by omega,this];simp
theorem Fill.step {w:World} {B E m:Nat} {ts us:List Tr} {vs:List Value} {f g:List Nat} (h:Fill w B E m ts f) (hv:RepV w us vs g) (hl:ts.length+vs.length≤m)
  (hg:g.Nodup) (hgb:B ∉ g) (hgf:∀ x ∈ g,x ∉ f) (hgo:Free w g):Fill (setRow w B ts.length vs) B E m (ts++us) (f++g):=by
 obtain⟨cs,hcs,hm⟩:=h.row;obtain⟨cs',h1,h2,h3,h4,h5⟩:=row_setRow vs w ts.length cs hcs;have hne:∀ b ∈ f,(setRow w B ts.length vs).heap[b]? = w.heap[b]?:=fun b hb=>zcc B vs w _ b (fun e=>h.nb (e ▸ hb))
 have hne':∀ b ∈ g,(setRow w B ts.length vs).heap[b]? = w.heap[b]?:=fun b hb=>zcc B vs w _ b (fun e=>hgb (e ▸ hb))
 refine⟨⟨cs',h1,by rw[h2];exact hm⟩,?_,?_,by simp[h.nb,hgb],?_⟩
 ·refine Reps.append ?_ ?_
  ·
   have old:∀ (ts':List Tr) (off:Nat) (f':List Nat),Reps w ts' B off f'→off+ts'.length≤ts.length→(∀ x ∈ f',x ∈ f)→Reps (setRow w B ts.length vs) ts' B off f':=by
    intro ts'
    induction ts' with
    | nil=>intro off f' hr _ _;exact zbo.2 (zbo.1 hr)
    | cons t ts' ih =>
     intro off f' hr hle hin;obtain⟨v,fa,fb,hc,hr1,hr2,rfl⟩:=za0.1 hr;refine za0.2 ⟨v,fa,fb,?_,hr1.frame (fun b hb=>hne b (hin b (by simp[hb]))),ih (off+1) fb hr2 (by simp at hle;omega) (fun x hx=>hin x (by simp[hx])),rfl⟩;rw[zae h1,h3 off (by simp at hle;omega),← zae hcs,hc]
   exact old ts 0 f h.reps (by omega) (fun x hx=>hx)
  ·rw[Nat.zero_add]
   refine zbw (hv.frame hne') (fun j hj=>?_);rw[zae h1,h5 (by omega) j hj]
 ·exact List.nodup_append.2 ⟨h.nd,hg,fun a ha b hb e=>hgf b hb (e ▸ ha)⟩
 ·intro b hb i
  rcases List.mem_append.1 hb with hb|hb
  ·exact h.free.frame hne b hb i
  ·exact hgo.frame hne' b hb i
theorem Fill.own {w:World} {B E n k:Nat} {ts:List Tr} {f:List Nat} (h:Fill w B E (n*k) ts f) (hl:ts.length=n*k) (hn:n≤maxLen):∃ fp,Own w (.sl k ts) (.slice (some ⟨B,0,none⟩) n n) fp∧∀ x ∈ fp,x=B∨x ∈ f:=by
 by_cases e:ts = []
 ·exact⟨[],⟨za5.2 ⟨_,n,n,rfl,hl,Nat.le_refl _,hn,Or.inl ⟨e,rfl⟩⟩,List.nodup_nil,fun b h=>by simp at h⟩,fun x hx=>by simp at hx⟩
 ·refine⟨B::f,⟨za5.2 ⟨_,n,n,rfl,hl,Nat.le_refl _,hn,Or.inr ⟨B,0,f,e,rfl,rfl,h.reps⟩⟩,List.nodup_cons.2 ⟨h.nb,h.nd⟩,?_⟩,fun x hx=>by simpa using hx⟩
  intro b hb i
  rcases List.mem_cons.1 hb with rfl|hb
  ·exact h.open_ i
  ·exact h.free b hb i
structure Chg (fp:List Nat) (w w':World):Prop where
 os:w'.os=w.os
 tape:w'.tape=w.tape
 output:w'.output=w.output
 size:w.heap.size≤w'.heap.size
 block:∀ b,b<w.heap.size→b ∉ fp→w'.heap[b]? = w.heap[b]?
theorem Chg.refl (fp:List Nat) (w:World):Chg fp w w:=⟨rfl,rfl,rfl,Nat.le_refl _,fun _ _ _=>rfl⟩
theorem Chg.trans {fp:List Nat} {a b c:World} (h:Chg fp a b) (k:Chg fp b c):Chg fp a c :=
 ⟨k.os.trans h.os,k.tape.trans h.tape,k.output.trans h.output,Nat.le_trans h.size k.size,fun x hx hn=>(k.block x (Nat.lt_of_lt_of_le hx h.size) hn).trans (h.block x hx hn)⟩
theorem Chg.mono {fp fq:List Nat} {a b:World} (h:Chg fp a b) (hs:∀ x ∈ fp,x ∈ fq):Chg fq a b:=⟨h.os,h.tape,h.output,h.size,fun x hx hn=>h.block x hx (fun e=>hn (hs x e))⟩
theorem Chg.of_below {fp:List Nat} {a b:World} (h:Below a.heap.size a b):Chg fp a b:=⟨h.os,h.tape,h.output,h.size,fun x hx _=>h.block x hx⟩
theorem Chg.setCell {fp:List Nat} {a w:World} (h:Chg fp a w) {p:Addr} (hp:p.block ∈ fp) (u:Value):Chg fp a (w.setCell p u) :=
 ⟨h.os,h.tape,h.output,by rw[zby];exact h.size,fun x hx hn=>(Below.heap_setCell w p u x (fun e=>hn (e ▸ hp))).trans (h.block x hx hn)⟩
theorem Chg.drew {fp:List Nat} {a w:World} (h:Chg fp a w):Chg fp a w.drew:=⟨h.os,h.tape,h.output,h.size,h.block⟩
theorem Chg.alloc {fp:List Nat} {a w:World} (h:Chg fp a w) (o:Obj):Chg fp a (w.alloc o) :=
 ⟨h.os,h.tape,h.output,Nat.le_trans h.size (by simp),fun x hx hn=>(Below.heap_alloc w o x (Nat.lt_of_lt_of_le hx h.size)).trans (h.block x hx hn)⟩
theorem Chg.below {fp:List Nat} {a b:World} {B:Nat} (h:Chg fp a b) (hB:B≤a.heap.size) (hf:∀ x ∈ fp,B≤x):Below B a b :=
 ⟨h.os,h.tape,h.output,h.size,fun x hx=>h.block x (by omega) (fun e=>by have:=hf x e;omega)⟩
theorem Rd.chg {B:Nat} {w w':World} {t:Tr} {v:Value} {fp:List Nat} (h:Rd B w t v) (hc:Chg fp w w') (hB:B≤w.heap.size) (hf:∀ x ∈ fp,B≤x):Rd B w' t v:=h.below (hc.below hB hf)
theorem Own.chg {w w':World} {t:Tr} {v:Value} {fp fq:List Nat} {lo hi:Nat} (h:Own w t v fp) (hi':In lo hi fp) (hs:hi≤w.heap.size) (hc:Chg fq w w') (hd:∀ x ∈ fp,x ∉ fq):Own w' t v fp :=
 h.frame fun b hx=>hc.block b (by have:=(hi' b hx).2;omega) (hd b hx)
mutual
def cnt:Tr→Nat
 | .lit _=>1
 | .sl _ es=>cntL es
def cntL:List Tr→Nat
 | []=>0
 | t::ts=>cnt t+cntL ts
end
def mdigits (k:Nat):List UInt8:=if h:k=0 then [] else mdigits (k / 10)++[UInt8.ofNat (48+k % 10)]
termination_by k
decreasing_by omega
def mtext (k:Nat):ByteArray:=if k=0 then ⟨#[109,48]⟩ else ⟨(109::mdigits k).toArray⟩
def mlit:Value→Nat→Value
 | .string _,k=>.string (mtext k)
 | _,k=>.int .i64 k
mutual
def mkT:Tr→Nat→Tr
 | .lit v,k=>.lit (mlit v k)
 | .sl n es,k=>.sl n (mkL es k)
def mkL:List Tr→Nat→List Tr
 | [],_=>[]
 | t::ts,k=>mkT t k::mkL ts (k+cnt t)
end
end Go.Proofs.YtpodllefipleiaaGreatDoor
