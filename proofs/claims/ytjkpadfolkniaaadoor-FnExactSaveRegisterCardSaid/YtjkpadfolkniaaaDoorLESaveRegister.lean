/- Proved here: the law FnExactSaveRegister returns true for every input, and each argument reads afterwards as before. The row, and the card that ties the library's tables to the program's text. No condition of ours. -/
import Derived.Test.YtjkpadfolkniaaaDoorRows
import Derived.Test.YtjkpadfolkniaaaDoorCards
import Derived.Test.YtjkpadfolkniaaaDoorTie
import Derived.Test.YtjkpadfolkniaaaDoorLay
import Derived.Test.YtjkpadfolkniaaaDoorWESaveRegister
import Derived.Test.YtjkpadfolkniaaaDoorFit
import Derived.WalkKit
import Derived.ProofKit
import Derived.OpenShut
import Derived.ShutString
import Derived.Carry
import Derived.KernelRfl
import Derived.SevenTiedAt
namespace Go.Proofs.YtjkpadfolkniaaaDoor.fnExactSaveRegister
open Go.ChangeShapes Go.WideShapes Go.ChangeAt Go.RowKit
open Go.ChangeMaps (open_string shut_string)
set_option linter.unusedVariables false
theorem own : ownKnob Tryd.prog.godebug = none := by kernel_rfl
theorem laidOut : laidOutB Tryd.prog = true := by kernel_rfl
theorem read0 : Tryd.prog.readableRec 25 = true := by kernel_rfl
theorem small0 : 25 < Tryd.prog.types.size := of_decide_eq_true (by kernel_rfl)
theorem flat0 : flatTy Tryd.prog 8 25 = some DRegister.ty := by kernel_rfl
set_option maxRecDepth 100000 in
theorem lifted (os : Os) (started : os.Started) (H : Type) (enc : TypeId × Value → H) :
    ReturnsInHanded {} Tryd.checked os 3 .any (fun w args => (Rows.fnExactSaveRegisterSpec.pre enc Tryd.prog Tryd.f3 Rows.fnExactSaveRegisterRow.domain false w args ∧ laidMetH Tryd.prog laidL w) ∧ sizedMet enc Tryd.prog Tryd.f3 (OpenSpec.ofChange Rows.fnExactSaveRegisterSpec) false w args)
      (Rows.fnExactSaveRegisterSpec.post enc Tryd.prog Tryd.f3 false true false false) := by
  refine returns_and_shaped (C := Tryd.checked) (X := fun w _ => laidMetH Tryd.prog laidL w) (fun _ _ _ hh h => h.of_heap hh) own started (by kernel_rfl) Tryd.func3
    (ChangeSpec.witness_shaped (enc := enc) (C := Tryd.checked) (os := os) (X := fun w _ => laidMetH Tryd.prog laidL w) false (World.laidAll Tryd.prog os laidL) #[.agg #[.slice none 0 0, .slice none 0 0]] 8 (World.laidAll_os _ _ _)
      (World.shaped_of_ZipB (by kernel_rfl) (by kernel_rfl)) (by kernel_rfl) (by kernel_rfl) (by kernel_rfl)
      (by rw [MakeChecks.laidMetH_plain _ _ _ plainL]; exact laidMet_laidAll _ (by kernel_rfl) (by kernel_rfl))) ?_
  intro W base args ds gs before hval0 hW hsh hL
  have hval : ∀ (j : Nat) t v, Tryd.f3.params[j]? = some t → args[j]? = some v → Value.okWide Tryd.prog W .any base t v := hval0
  have hW' := hW
  have hlt := fun p hp => hW.lt p hp
  obtain ⟨p, q, hA0, hV, rfl, hfz, hnd⟩ := hW
  have hA : DataW.TrodAll enc Tryd.prog W 0 (fun _ => true) true Tryd.f3.params.toList args.toList ds p := hA0
  rw [Tryd.params3] at hA hval
  obtain ⟨v0, vs0, d0, ds0, p0, q0, hargs, rfl, rfl, h0, r0⟩ := trodAll_cons hA
  obtain ⟨rfl, rfl, rfl⟩ := trodAll_nil r0
  obtain rfl : args = #[v0] := by cases args; simp_all
  obtain ⟨rfl, rfl⟩ := trodVars_none hV
  clear hA0 hval0
  have ho0 := hval 0 25 v0 rfl rfl
  have ht0 := h0
  obtain ⟨cs0, rfl, hsz0⟩ := okWide_struct Tryd.underlying25 ho0
  obtain ⟨fu0, hf0⟩ := h0
  obtain ⟨ts0, fp0, rp0, ft0, lt0⟩ := open_flat 8 _ _ flat0 _ _ _ hf0
  obtain ⟨n0, rfl, b0⟩ := DRegister.fit ft0
  have rdv0 : RdV W.heap.size W n0.tr cs0.toList := RepV.rd rp0 lt0
  obtain ⟨l0⟩ := cs0
  change RdV W.heap.size W n0.tr l0 at rdv0
  clear hsz0 hf0 rp0 ft0
  obtain ⟨x0_0, x0_1, rfl, rd0_0, rd0_1⟩ := DRegister.opn rdv0
  simp only [List.append_nil] at hW' hlt
  refine (walk n0 _ _ W (libW_of hsh hL) rd0_0 rd0_1 b0).mono fun e W' ⟨he, hb⟩ => ?_
  subst he
  refine ⟨_, rfl, post_of_below (pa := (p0 ++ [])) (pv := []) hW' (fun _ _ _ => (trodAll_cons_mk (shut_bool Tryd.underlying4 _) trodAll_mk0)) (fun sp hsp => ?_) (fun _ _ => rfl) (by simp) hb (ok_one (by kernel_rfl) rfl (okWide_bool_mk Tryd.underlying4 _))⟩
  exact (trodAll_cons_mk (WideElems.Trod_stays laidOut read0 small0 ht0 (fun x hx => hb.same (hlt x (by simp [hx]))) (fun x hx => hsp x (by simp [hx]))) trodAll_mk0)
theorem over : Rows.fnExactSaveRegisterRow.holds Tryd.pinned (OpenSpec.ofChange Rows.fnExactSaveRegisterSpec) :=
  OpenClaim.holds_of_wide 3 Tryd.f3 rfl rfl rfl rfl rfl rfl rfl ⟨rfl, rfl, rfl, rfl, rfl⟩ rfl rfl rfl rfl rfl (by kernel_rfl) Tryd.func3 (by kernel_rfl)
    (of_decide_eq_true (by kernel_rfl)) (by unfold Func.isWrapper; first | (rw [if_pos (by decide +kernel)]; kernel_rfl) | (rw [if_neg (by decide +kernel)]; exact ⟨rfl, rfl⟩))
    (fun os started H enc _ => lifted os started H enc)
theorem proved : Rows.FnExactSaveRegisterCardSaid :=
  Claim7.holds_tied_plain_at .later [] [.data, .data, .data] true Rows.fnExactSaveRegisterCard.stood.harness false over (fun _ h => by cases h) (by kernel_rfl) (fun _ h => by cases h) fnExactSaveRegister_row_tie rfl ⟨rfl, rfl⟩ (by kernel_rfl) rfl
    (fun f fn hf hfn => by
      obtain rfl : f = 3 := Option.some.inj ((show Tryd.prog.funcNamed "loop.example/g00925/laws.FnExactSaveRegister" = some 3 by kernel_rfl).symm.trans hf) |>.symm
      obtain rfl : fn = Tryd.f3 := (Option.some.inj (Tryd.func3.symm.trans hfn)).symm
      exact ⟨by kernel_rfl, fun j t ht => by
        rw [Tryd.params3] at ht
        have hm : t ∈ [25] := by simpa using Array.mem_of_getElem? ht
        have hall : ([25].all fun u => !Tryd.prog.wantsStandIn u) = true := by kernel_rfl
        exact (show Tryd.prog.wantsStandIn t = false by simpa using List.all_eq_true.1 hall t hm)⟩)
    (by kernel_rfl)
#print axioms proved
end Go.Proofs.YtjkpadfolkniaaaDoor.fnExactSaveRegister
