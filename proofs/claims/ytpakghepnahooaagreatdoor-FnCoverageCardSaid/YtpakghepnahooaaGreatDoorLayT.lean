/- What the library's own variables and the program's tables hold where the call begins: out of the row's condition and the world's shape. -/
import Derived.Test.YtpakghepnahooaaGreatDoorLv9
import Derived.Test.YtpakghepnahooaaGreatDoorRows
import Derived.HandedShaped
import Derived.Lay
import Derived.LaidMore
import Derived.Lib.LaidU8
import Derived.Stop.LaidErr
import Derived.OpenVars
set_option linter.unusedVariables false
set_option linter.unusedSimpArgs false
namespace Go.Proofs.YtpakghepnahooaaGreatDoor
open Go.RowKit Go.ChangeShapes Go.WideShapes Go.WideElems Go.ChangeAt
theorem returns_and_shaped {H:Type} {enc:TypeId × Value→H} {a:Assume} {C:Checked} {os:Os} {f:FuncId} {fn:Func} {s:ChangeSpec} {conds:List PathCond} {apart fresh handsOn again:Bool} {X:World→Array Value→Prop}
  (hX:∀ (w w':World) (args:Array Value),w.heap=w'.heap→X w args→X w' args)
  (own:ownKnob C.prog.godebug=none) (started:os.Started) (noInit:C.prog.inits.idxOf? f=none) (hfn:C.prog.funcs[f]? = some fn)
  (witness:∃ (w:World) (tape:Tape) (i:Input),w.os=os∧(w.forCall tape i).Shaped C.prog∧i.vars = []∧Input.okWide C.prog (w.forCall tape i) .any w.heap.size f i ∧
   ((s.pre enc C.prog fn conds apart (w.forCall tape i).memory i.args∧X (w.forCall tape i).memory i.args)∧sizedMet enc C.prog fn (OpenSpec.ofChange s) apart (w.forCall tape i).memory i.args)∧a.holds C.prog (lone (Frame.enter C.prog f i.args .normal) [] (w.forCall tape i)))
  (contract:∀ (W:World) (base:Nat) (args:Array Value) (ds gs:List (DataW H)) (before:List MemPlace),
   (∀ (j:Nat) t v,fn.params[j]? = some t→args[j]? = some v→Value.okWide C.prog W .any base t v) →
   DataW.Whole enc C.prog fn.params.toList s.vars apart W args.toList ds gs before →
   W.ShapedOpen C.prog→X W args →
   Calls C.prog f args W fun e W'=>∃ v,e=.returned v∧s.post enc C.prog fn apart fresh handsOn again W args v W') :
  ReturnsInHanded a C os f .any (fun w args=>(s.pre enc C.prog fn conds apart w args∧X w args)∧sizedMet enc C.prog fn (OpenSpec.ofChange s) apart w args) (s.post enc C.prog fn apart fresh handsOn again):=by
 refine returnsInHanded_of_calls own started noInit witness ?_;intro w tape i _ hsh _ hok hpre hholds;obtain⟨_,_,_,fn',hfn',_,_,_,_,hval⟩:=hok;have e:fn' = fn:=Option.some.inj (hfn'.symm.trans hfn);subst e;obtain⟨⟨⟨ds,gs,before,hw,hc⟩,hx⟩,hz⟩:=hpre;have hw':=DataW.Whole.of_heap (w':=w.forCall tape i) (by rfl) hw;refine (contract (w.forCall tape i) w.heap.size i.args ds gs before hval hw' hsh (hX _ _ _ (by rfl) hx)).mono fun e W' ⟨v,he,hp⟩=>?_
 subst he;exact ChangeSpec.post_blind hp
theorem trodVars_kept {H:Type} {enc:TypeId × Value→H} {P:Program} (hl:laidOutB P=true) {W W':World} (hb:Below W.heap.size W W') (sp:Nat→Bool) :
  ∀ {ns:List String} {gs:List (DataW H)} {ps:List MemPlace},varsRowed P ns=true→DataW.TrodVars enc P W (fun _=>true) ns gs ps→(∀ x ∈ ps,sp x.block=true)→DataW.TrodVars enc P W' sp ns gs ps
 | [],[],_,_,h,_=>h
 | [],_::_,_,_,h,_=>h.elim
 | _::_,[],_,_,h,_=>h.elim
 | n::ns,d::ds,ps,hv,h,hsp=>by
  have hlt:=h.lt;obtain⟨g,t,cs,fuel,p,q,h1,h2,h3,h4,hs,e⟩:=h;simp only[varsRowed,List.all_cons,Bool.and_eq_true] at hv;have ht:P.readableRec t=true∧t<P.types.size:=by
   have:=hv.1;rw[h1] at this
   cases hg:P.globals[g]? with
   | none=>rw[hg] at h2;cases h2
   | some gl =>
    rw[hg] at h2;obtain rfl:gl.type=t:=Option.some.inj h2
    simpa [hg] using this
  have hp:∀ x ∈ p,x.block<W.heap.size:=fun x hx=>hlt x (by rw[e];simp[hx])
  have h3':W'.var? P n=some cs:=by
   unfold World.var? at h3 ⊢;rw[h1] at h3 ⊢;simp only[Option.bind_some] at h3 ⊢;have hg:g<W.heap.size:=by
    cases hh:W.heap[g]? with
    | none=>rw[hh] at h3;cases h3
    | some o=>exact (Array.getElem?_eq_some_iff.1 hh).1
   rw[hb.block g hg];exact h3
  exact⟨g,t,cs,fuel,p,q,h1,h2,h3',DataW.trod_stays (kids_book hl ht.1) (book_sized ht.1) (fun h=>by cases h) ⟨ht.2,book_self t⟩ h4 (fun x hx=>hb.same (hp x hx)) (fun x hx=>hsp x (by rw[e];simp[hx])),
   trodVars_kept hl hb sp (by simpa [varsRowed] using hv.2) hs (fun x hx=>hsp x (by rw[e];simp[hx])),e⟩
theorem gPow10T:(Tryz.prog.globals[2]?).map (·.type)=some 241:=by kernel_rfl
theorem cellsPow:Tryz.prog.cellsOf 241=20:=by kernel_rfl
theorem cellsU64:Tryz.prog.cellsOf 114=1:=by kernel_rfl
theorem pow10_eq:(Rows.laid_internal_strconv_uint64pow10:DataW Unit)=Go.Lib.tabData .u64 Go.Lib.pow10Tab:=by kernel_rfl
theorem gSineN:Tryz.prog.globalNamed "loop.example/g00925/impl.sineTable" = some 1:=by kernel_rfl
theorem gSineT:(Tryz.prog.globals[1]?).map (·.type)=some 218:=by kernel_rfl
theorem cellsSine:Tryz.prog.cellsOf 218=91:=by kernel_rfl
theorem cellsI64:Tryz.prog.cellsOf 2=1:=by kernel_rfl
theorem sine_eq:(Rows.laid_loop_example_g00925_impl_sineTable:DataW Unit)=Go.Lib.tabData .i64 sinL:=by kernel_rfl
theorem gCluN:Tryz.prog.globalNamed "loop.example/g00925/impl.clutterTable" = some 0:=by kernel_rfl
theorem gCluT:(Tryz.prog.globals[0]?).map (·.type)=some 208:=by kernel_rfl
def cluD:List (DataW Unit):=match (Rows.laid_loop_example_g00925_impl_clutterTable:DataW Unit) with | .agg l=>l|_=>[]
theorem clu_eq:(Rows.laid_loop_example_g00925_impl_clutterTable:DataW Unit)=.agg cluD:=by kernel_rfl
theorem cluD_at (k:Nat) (hk:k<8):∃ s,cluD[k]? = some (.agg [.lit (.string s),.lit (.int .i64 (gi clH k)),.lit (.int .i64 (gi clL k))]):=by
 match k,hk with
 | 0,_=>exact⟨_,rfl⟩
 | 1,_=>exact⟨_,rfl⟩
 | 2,_=>exact⟨_,rfl⟩
 | 3,_=>exact⟨_,rfl⟩
 | 4,_=>exact⟨_,rfl⟩
 | 5,_=>exact⟨_,rfl⟩
 | 6,_=>exact⟨_,rfl⟩
 | 7,_=>exact⟨_,rfl⟩
theorem clu_cells {enc:TypeId × Value→Unit} {W:World} {base:Nat} {sp:Nat→Bool} {held:Bool} {fuel:Nat} {cs:List Value} {p:List MemPlace}
  (h:DataW.trod enc Tryz.prog W base sp held fuel 208 cs=some (.agg cluD,p)) (k:Nat) (hk:k<8) :
  (∃ s,cs[k*3]? = some (.string s))∧cs[k*3+1]? = some (.int .i64 (gi clH k))∧cs[k*3+2]? = some (.int .i64 (gi clL k)):=by
 obtain⟨xs,m,_,hx,_,hn,hf⟩:=DataW.trod_array Tryz.underlying208 h;have hxs:cluD=xs.map (·.1):=by
  have:=congrArg Prod.fst hx
  simpa using this
 have hk1:k<xs.length:=by omega
 obtain⟨s,hs⟩:=cluD_at k hk;rw[hxs,List.getElem?_map,List.getElem?_eq_getElem hk1] at hs;have hy:=Option.some.inj hs;have hfk:=hf k hk;rw[List.getElem?_eq_getElem hk1,show Tryz.prog.cellsOf 207=3 by kernel_rfl] at hfk;obtain⟨y0,y1,y2,n,hyy,hlen,h0,h1,h2⟩:=Go.Deep.trod_struct3 Tryz.underlying207 hfk;rw[hyy] at hy;rw[show Tryz.prog.cellsOf 207=3 by kernel_rfl] at hlen;injection hy with hy;injection hy with a0 hy;injection hy with a1 hy;injection hy with a2 hy;obtain⟨s',c0,_,_⟩:=DataW.trod_string Tryz.underlying9 h0;obtain⟨n1,c1,b1,_⟩:=DataW.trod_int Tryz.underlying2 h1;obtain⟨n2,c2,b2,_⟩:=DataW.trod_int Tryz.underlying2 h2;subst b1 b2;injection a1 with a1;injection a1 with _ a1;injection a2 with a2;injection a2 with _ a2;subst a1 a2;have e0:=congrArg (·[0]?) c0;have e1:=congrArg (·[0]?) c1;have e2:=congrArg (·[0]?) c2;have q0:Tryz.prog.cellsOf 9=1:=by kernel_rfl
 have q1:=cellsI64;refine⟨⟨s',?_⟩,?_,?_⟩
 ·simpa [q0,List.getElem?_take,List.getElem?_drop] using e0
 ·simpa [q1,List.getElem?_take,List.getElem?_drop] using e1
 ·simpa [q1,List.getElem?_take,List.getElem?_drop] using e2
def laidL:List (String × DataW Unit):=[("math/bits.deBruijn32tab", Rows.laid_math_bits_deBruijn32tab),("math/bits.deBruijn64tab", Rows.laid_math_bits_deBruijn64tab),("internal/strconv.uint64pow10", Rows.laid_internal_strconv_uint64pow10),("loop.example/g00925/impl.sineTable", Rows.laid_loop_example_g00925_impl_sineTable),("loop.example/g00925/impl.clutterTable", Rows.laid_loop_example_g00925_impl_clutterTable)]
theorem plainL:(laidL.all fun x=>x.2.handleName?.isNone)=true:=by kernel_rfl
theorem libW_of {W:World} (hsh:W.ShapedOpen Tryz.prog) (hL0:laidMetH Tryz.prog laidL W):TabW W:=by
 rw[MakeChecks.laidMetH_plain _ _ _ plainL] at hL0;have hL:laidMet Tryz.prog laidL W:=hL0;unfold laidL at hL;have h3:=hL.tail.tail;rw[pow10_eq] at h3;have ht:=Go.Lib.tabIs_of_head gPow10 gPow10T Tryz.underlying241 Tryz.underlying114 cellsU64 cellsPow h3;have c3:=Go.Lib.TabIs.cell ht gPow10 0 (by decide);have h4:=hL.tail.tail.tail;rw[sine_eq] at h4;have hs:=Go.Lib.tabIs_of_head gSineN gSineT Tryz.underlying218 Tryz.underlying2 cellsI64 cellsSine h4;have hs0:=Go.Lib.TabIs.cell hs gSineN 0 (by decide);have h5:=hL.tail.tail.tail.tail;rw[clu_eq] at h5;obtain⟨ps,⟨g',t',cs,fuel,p,q,hg',ht',hvar,hd,_,_⟩,_⟩:=h5;obtain rfl:=Option.some.inj (gCluN.symm.trans hg');obtain rfl:=Option.some.inj (gCluT.symm.trans ht');have hc:=fun k hk=>clu_cells hd k hk
 have hv:∀ i:Nat,W.cell? ⟨0,i,none⟩=cs.toList[i]?:=fun i=>by
  have h:=World.var?_cell gCluN hvar i
  simpa using h
 have hz:=(hv 1).trans (hc 0 (by decide)).2.1
 exact⟨⟨cell_lt c3,ht⟩,cell_lt hs0,cell_lt hz,fun k hk=>Go.Lib.TabIs.cell hs gSineN k (by rw[show sinL.length=91 by decide];exact hk),fun k hk=>by
  obtain⟨s,e⟩:=(hc k hk).1
  exact⟨s,(hv _).trans e⟩,fun k hk=>(hv _).trans (hc k hk).2.1,fun k hk=>(hv _).trans (hc k hk).2.2⟩
end Go.Proofs.YtpakghepnahooaaGreatDoor
