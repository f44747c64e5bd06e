/- What the library's own variables hold where the call begins: out of the row's condition and the world's shape. -/
import Derived.Test.YtmkkiglcpedkiaaGreatDoorCrc
import Derived.Test.YtmkkiglcpedkiaaGreatDoorRows
import Derived.Test.YtmkkiglcpedkiaaGreatDoorFit
import Derived.HandedShaped
import Derived.Lay
import Derived.LaidMore
import Derived.Lib.LaidU8
import Derived.Stop.LaidErr
set_option linter.unusedVariables false
set_option linter.unusedSimpArgs false
namespace Go.Proofs.YtmkkiglcpedkiaaGreatDoor
open Go.RowKit Go.ChangeShapes Go.WideShapes
theorem returns_and_shaped {H:Type} {enc:TypeId × Value→H} {a:Assume} {C:Checked} {os:Os} {f:FuncId} {fn:Func} {s:ChangeSpec} {conds:List PathCond} {apart fresh handsOn again:Bool} {X:World→Array Value→Prop}
  (hX:∀ (w w':World) (args:Array Value),w.heap=w'.heap→X w args→X w' args)
  (own:ownKnob C.prog.godebug=none) (started:os.Started) (noInit:C.prog.inits.idxOf? f=none) (hfn:C.prog.funcs[f]? = some fn)
  (witness:∃ (w:World) (tape:Tape) (i:Input),w.os=os∧(w.forCall tape i).Shaped C.prog∧i.vars = []∧Input.okWide C.prog (w.forCall tape i) .any w.heap.size f i ∧
   ((s.pre enc C.prog fn conds apart (w.forCall tape i).memory i.args∧X (w.forCall tape i).memory i.args)∧sizedMet enc C.prog fn (OpenSpec.ofChange s) apart (w.forCall tape i).memory i.args)∧a.holds C.prog (lone (Frame.enter C.prog f i.args .normal) [] (w.forCall tape i)))
  (contract:∀ (W:World) (base:Nat) (args:Array Value) (ds gs:List (DataW H)) (before:List MemPlace),
   (∀ (j:Nat) t v,fn.params[j]? = some t→args[j]? = some v→Value.okWide C.prog W .any base t v) →
   DataW.Whole enc C.prog fn.params.toList s.vars apart W args.toList ds gs before →
   W.ShapedOpen C.prog→X W args →
   Calls C.prog f args W fun e W'=>∃ v,e=.returned v∧s.post enc C.prog fn apart fresh handsOn again W args v W') :
  ReturnsInHanded a C os f .any (fun w args=>(s.pre enc C.prog fn conds apart w args∧X w args)∧sizedMet enc C.prog fn (OpenSpec.ofChange s) apart w args) (s.post enc C.prog fn apart fresh handsOn again):=by
 refine returnsInHanded_of_calls own started noInit witness ?_;intro w tape i _ hsh _ hok hpre hholds;obtain⟨_,_,_,fn',hfn',_,_,_,_,hval⟩:=hok;have e:fn' = fn:=Option.some.inj (hfn'.symm.trans hfn);subst e;obtain⟨⟨⟨ds,gs,before,hw,hc⟩,hx⟩,hz⟩:=hpre;have hw':=DataW.Whole.of_heap (w':=w.forCall tape i) (by rfl) hw;refine (contract (w.forCall tape i) w.heap.size i.args ds gs before hval hw' hsh (hX _ _ _ (by rfl) hx)).mono fun e W' ⟨v,he,hp⟩=>?_
 subst he;exact ChangeSpec.post_blind hp
theorem gRange:Tryz.prog.globalNamed "strconv.ErrRange" = some 3:=by kernel_rfl
theorem gSyntax:Tryz.prog.globalNamed "strconv.ErrSyntax" = some 2:=by kernel_rfl
theorem gRangeT:(Tryz.prog.globals[3]?).map (·.type)=some 102:=by kernel_rfl
theorem gSyntaxT:(Tryz.prog.globals[2]?).map (·.type)=some 102:=by kernel_rfl
theorem gPow10T:(Tryz.prog.globals[1]?).map (·.type)=some 148:=by kernel_rfl
theorem cellsPow:Tryz.prog.cellsOf 148=20:=by kernel_rfl
theorem cellsU64:Tryz.prog.cellsOf 59=1:=by kernel_rfl
theorem cellsErrS:Tryz.prog.cellsOf 168=1:=by kernel_rfl
theorem cellsStr:Tryz.prog.cellsOf 9=1:=by kernel_rfl
theorem starE : "*" ++ "errors.errorString" = "*errors.errorString" := by decide
theorem rowErrS (u:TypeId) (h:Tryz.prog.typeName? 3 u=some "*errors.errorString"):u=166 :=
 typeName_ptr_named (nm := "errors.errorString") (by rw[starE];kernel_rfl) (by kernel_rfl) (by decide) u (by rw[starE];exact h)
theorem pow10_eq:(Rows.laid_internal_strconv_uint64pow10:DataW Unit)=Go.Lib.tabData .u64 Go.Lib.pow10Tab:=by kernel_rfl
def laidL:List (String × DataW Unit):=[("math/bits.deBruijn32tab", Rows.laid_math_bits_deBruijn32tab),("math/bits.deBruijn64tab", Rows.laid_math_bits_deBruijn64tab),("internal/strconv.uint64pow10", Rows.laid_internal_strconv_uint64pow10),("unicode/utf8.acceptRanges", Rows.laid_unicode_utf8_acceptRanges),("strconv.ErrRange", Rows.laid_strconv_ErrRange),("strconv.ErrSyntax", Rows.laid_strconv_ErrSyntax),("unicode/utf8.first", Rows.laid_unicode_utf8_first)]
theorem plainL:(laidL.all fun x=>x.2.handleName?.isNone)=true:=by kernel_rfl
theorem libW_of {W:World} (hsh:W.ShapedOpen Tryz.prog) (hL0:laidMetH Tryz.prog laidL W):LibW W:=by
 rw[MakeChecks.laidMetH_plain _ _ _ plainL] at hL0;have hL:laidMet Tryz.prog laidL W:=hL0;unfold laidL at hL;obtain⟨m,hm⟩:=Tryz.laysM146.s1_3 W hsh;have h3:=hL.tail.tail;rw[pow10_eq] at h3;have ht:=Go.Lib.tabIs_of_head gPow10 gPow10T Tryz.underlying148 Tryz.underlying59 cellsU64 cellsPow h3;obtain⟨a1,s1,hv1,_⟩:=laid_sentinel hL.tail.tail.tail.tail gRange gRangeT Tryz.underlying102 rowErrS Tryz.underlying166 Tryz.underlying168 rfl rfl Tryz.underlying9 cellsErrS cellsStr;obtain⟨a2,s2,hv2,_⟩:=laid_sentinel hL.tail.tail.tail.tail.tail gSyntax gSyntaxT Tryz.underlying102 rowErrS Tryz.underlying166 Tryz.underlying168 rfl rfl Tryz.underlying9 cellsErrS cellsStr;have c1:W.cell? ⟨2,0,none⟩=some (.iface 166 (.pointer (some a2))):=by simpa using World.var?_cell gSyntax hv2 0
 have c2:W.cell? ⟨3,0,none⟩=some (.iface 166 (.pointer (some a1))):=by simpa using World.var?_cell gRange hv1 0
 have c3:=Go.Lib.TabIs.cell ht gPow10 0 (by decide);exact⟨⟨cell_lt hm,cell_lt c3,cell_lt c1,cell_lt c2⟩,⟨m,hm⟩,ht,⟨_,_,c1⟩,⟨_,_,c2⟩⟩
end Go.Proofs.YtmkkiglcpedkiaaGreatDoor
