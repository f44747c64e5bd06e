/- Contract: a valid problem, drawn from a code, by the reference. No condition. -/
import Derived.Test.YtpnllibboeeaaaaFp2
namespace Go.Proofs.Ytpnllibboeeaaaa
open Go.RowKit
set_option linter.unusedVariables false
set_option linter.unusedSimpArgs false

set_option maxHeartbeats 4000000 in
theorem R8Problem_any (l : List UInt8) (v : Value) (w : World) (h : Rd w.heap.size w (bsT l) v) :
    Calls Try.prog 5 #[v] w fun e w' => ∃ p : DProblem, ValidP p ∧ p.domains.length ≤ 6 ∧ ProbP w e w' p ∧ Below w.heap.size w w' := by
  have b0 : Below w.heap.size w (w.alloc (.cells #[.slice none 0 0, .slice none 0 0] 26)) := (Below.refl _ _).alloc (Nat.le_refl _) _
  have HL := Lib.hid fun (W : World) (hr : Rd W.heap.size W (bsT l) v) => l00From_any l v W hr
  have HR : Hid (Rd (w.alloc (.cells #[.slice none 0 0, .slice none 0 0] 26)).heap.size (w.alloc (.cells #[.slice none 0 0, .slice none 0 0] 26)) (bsT l) v) := (h.below b0).mono (by simp)
  have KR0 := Lib.hid (bkN w #[.slice none 0 0, .slice none 0 0] 26)
  have B0 := Lib.hid b0
  have z0 : (w.alloc (.cells #[.slice none 0 0, .slice none 0 0] 26)).heap.size > w.heap.size := by simp
  have HDr := Lib.hid fun (b : Nat) (W : World) (hs : Src W b 0) => l17Draw_any b 0 W hs (by omega)
  obtain ⟨av, cv, rfl, _, _, _⟩ := h.bs
  clear h b0
  go_enter Try.func5, Try.ntmps5
  go_wp2_with (fail)
  go_at_call 14
  generalize w.alloc (.cells #[.slice none 0 0, .slice none 0 0] 26) = w0 at *
  refine (HL.out w0 HR.out).mono ?_
  rintro e w1 ⟨rfl, S1, b1, z1⟩
  replace z1 : w0.heap.size < w1.heap.size := by omega
  have HS := Lib.hid S1
  have KR1 := Lib.hid (bkB KR0.out b1 (by omega))
  have B1 := Lib.hid (B0.out.trans (b1.mono (by omega)))
  clear S1 b1 KR0 B0 HR
  go_wp2_with (fail)
  go_at_call 15
  refine (HDr.out w0.heap.size w1 HS.out).mono ?_
  rintro e w2 ⟨p, hv, h6, ⟨a0, c0, a1, c1, f0, f1, rfl, o0, o1, i0, i1, dj⟩, C2⟩
  have KR2 : w2.heap[w.heap.size]? = some (.cells #[.slice none 0 0, .slice none 0 0] 26 (0, 0)) := (C2.block _ (by omega) (by simp; omega)).trans KR1.out
  have r0 := bkC KR2 0 rfl
  have r1 := bkC KR2 1 rfl
  have rf := bkF KR2
  have z2 := C2.size
  have bl : Hid (Below w.heap.size w w2) := B1.out.trans (C2.below (by omega) (fun x hx => by simp at hx; omega))
  have hFr : ∀ y, w.heap.size < y → ((w2.setCell ⟨w.heap.size, 0, none⟩ (.slice a0 p.domains.length c0)).setCell ⟨w.heap.size, 1, none⟩ (.slice a1 p.apart.length c1)).heap[y]? = w2.heap[y]? := fun y hy => (Below.heap_setCell _ _ _ y (by show y ≠ w.heap.size; omega)).trans (Below.heap_setCell _ _ _ y (by show y ≠ w.heap.size; omega))
  have O0 := Lib.hid (o0.frame (fun y hy => hFr y (by have := (i0 y hy).1; omega)))
  have O1 := Lib.hid (o1.frame (fun y hy => hFr y (by have := (i1 y hy).1; omega)))
  have I0 := Lib.hid (i0.mono (lo' := w.heap.size) (by omega) (Nat.le_refl _))
  have I1 := Lib.hid (i1.mono (lo' := w.heap.size) (by omega) (Nat.le_refl _))
  have HV := Lib.hid hv
  have HDJ := Lib.hid dj
  clear o0 o1 i0 i1 hFr KR2 C2 hv dj KR1 B1 HS
  go_wp2_with (fail)
  exact bodyPost_ret (v := .agg #[.slice a0 p.domains.length c0, .slice a1 p.apart.length c1]) (by simp [results, Try.results5, go_sem, *]) rfl ⟨p, HV.out, h6, ⟨a0, c0, a1, c1, f0, f1, rfl, O0.out, O1.out, by simp only [size_setCell]; exact I0.out, by simp only [size_setCell]; exact I1.out, HDJ.out⟩, (bl.out.setCell (by show w.heap.size ≤ w.heap.size; omega) _).setCell (by show w.heap.size ≤ w.heap.size; omega) _⟩
end Go.Proofs.Ytpnllibboeeaaaa
