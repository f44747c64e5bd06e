/- Contracts: copies of problems, and Tighten of the program and of the reference. Conditions: bounded lengths. -/
import Derived.Test.YtpnllibboeeaaaaProb5
import Derived.Deep.RegionWith
namespace Go.Proofs.Ytpnllibboeeaaaa
open Go.RowKit
set_option linter.unusedVariables false

set_option maxHeartbeats 4000000 in
theorem clone_any (p : DProblem) (d a : Value) (w : World) (hd : Rd w.heap.size w (intssT p.domains) d) (ha : Rd w.heap.size w (intssT p.apart) a) (hs : siz (intssT p.domains) ≤ 1048576) (hs2 : siz (intssT p.apart) ≤ 1048576) :
    Calls Try.prog 25 #[.agg #[d, a]] w fun e w' => ∃ a1 c1 a2 c2 f1 f2, e = .returned (.agg #[.slice a1 p.domains.length c1, .slice a2 p.apart.length c2]) ∧ Below w.heap.size w w' ∧
      Own w' (intssT p.domains) (.slice a1 p.domains.length c1) f1 ∧ Own w' (intssT p.apart) (.slice a2 p.apart.length c2) f2 ∧ In w.heap.size w'.heap.size f1 ∧ In w.heap.size w'.heap.size f2 ∧ ∀ y ∈ f1, y ∉ f2 := by
  have HD : ∀ W : World, Below w.heap.size w W → Calls Try.prog 40 #[d] W fun e w' => ∃ a' c' fp, e = .returned (.slice a' p.domains.length c') ∧ Below W.heap.size W w' ∧ Own w' (intssT p.domains) (.slice a' p.domains.length c') fp ∧ In W.heap.size w'.heap.size fp :=
    fun W hW => cloneLists_any p.domains d W ((hd.below hW).mono hW.size) hs
  have HA : ∀ W : World, Below w.heap.size w W → Calls Try.prog 40 #[a] W fun e w' => ∃ a' c' fp, e = .returned (.slice a' p.apart.length c') ∧ Below W.heap.size W w' ∧ Own w' (intssT p.apart) (.slice a' p.apart.length c') fp ∧ In W.heap.size w'.heap.size fp :=
    fun W hW => cloneLists_any p.apart a W ((ha.below hW).mono hW.size) hs2
  have HDh := Lib.hid HD
  have HAh := Lib.hid HA
  clear HD HA hd ha
  have b0 : Below w.heap.size w ((w.alloc (.cells #[d, a] 26)).alloc (.cells #[.slice none 0 0, .slice none 0 0] 26)).drew := (((Below.refl _ _).alloc (Nat.le_refl _) _).alloc (by simp) _).drew
  have B0 := Lib.hid b0
  clear b0
  go_enter Try.func25, Try.ntmps25
  go_wp2
  go_region_with (first
    | (go_at_call_of 40 d; refine (HDh.out _ ?_).mono ?_; exact B0.out; rintro e w1 ⟨a1, c1, f1, rfl, hb1, o1, i1⟩; obtain ⟨qa1, _, ya1⟩ := bcellAt hb1 (b := w.heap.size) (by simp; omega); obtain ⟨qb1, qf1, yb1⟩ := bcellAt hb1 (b := w.heap.size + 1) (by simp); have B1 := Lib.hid (B0.out.trans (hb1.mono B0.out.size)))
    | (go_at_call_of 40 a; refine (HAh.out _ ?_).mono ?_; exact B1.out; rintro e w2 ⟨a2, c2, f2, rfl, hb2, o2, i2⟩; obtain ⟨qb2, qf2, yb2⟩ := bcellAt hb2 (b := w.heap.size + 1) yb1))
  all_goals
    have o1' := (o1.below i1 (Nat.le_refl _) hb2)
    have i1' : In (w.heap.size + 2) w1.heap.size f1 := i1.mono (by first | (simp; done) | (simp; omega)) (Nat.le_refl _)
    have z2 := hb2.size
    have z1 : w.heap.size + 1 ≤ w1.heap.size := by omega
    have F1 := Lib.hid ((o1'.setFar (p := ⟨w.heap.size + 1, 0, none⟩) (fun e => by have := (i1' _ e).1; simp only at this; omega) (.slice a1 p.domains.length c1)).setFar (p := ⟨w.heap.size + 1, 1, none⟩) (fun e => by have := (i1' _ e).1; simp only at this; omega) (.slice a2 p.apart.length c2))
    have F2 := Lib.hid ((o2.setFar (p := ⟨w.heap.size + 1, 0, none⟩) (fun e => by have := (i2 _ e).1; simp only at this; omega) (.slice a1 p.domains.length c1)).setFar (p := ⟨w.heap.size + 1, 1, none⟩) (fun e => by have := (i2 _ e).1; simp only at this; omega) (.slice a2 p.apart.length c2))
    have BF := Lib.hid (((B1.out.trans (hb2.mono (by omega))).setCell (p := ⟨w.heap.size + 1, 0, none⟩) (by show w.heap.size ≤ w.heap.size + 1; omega) (.slice a1 p.domains.length c1)).setCell (p := ⟨w.heap.size + 1, 1, none⟩) (by show w.heap.size ≤ w.heap.size + 1; omega) (.slice a2 p.apart.length c2))
    have j1 : In w.heap.size w2.heap.size f1 := i1'.mono (by omega) (by omega)
    have j2 : In w.heap.size w2.heap.size f2 := i2.mono (by omega) (by omega)
    have dj : ∀ y ∈ f1, y ∉ f2 := fun y h1 h2 => by have := (i1 y h1).2; have := (i2 y h2).1; omega
    clear hb1 hb2 o1 o2 o1'
    go_wp2
    refine bodyPost_ret (v := .agg #[.slice a1 p.domains.length c1, .slice a2 p.apart.length c2]) (by simp [results, Try.results25, go_sem, *]) rfl ⟨a1, c1, a2, c2, f1, f2, rfl, BF.out, F1.out, F2.out, ?_, ?_, dj⟩
    · simp only [size_setCell]; exact j1
    · simp only [size_setCell]; exact j2
end Go.Proofs.Ytpnllibboeeaaaa
