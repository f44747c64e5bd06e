/- Contract: slices.DeleteFunc over an owned slice of integers. Conditions: bounded length; the predicate answers as a plain function does. -/
import Derived.Test.YtpnllibboeeaaaaSl
import Derived.Lib.SliceRun
namespace Go.Proofs.Ytpnllibboeeaaaa
open Go.RowKit
set_option linter.unusedVariables false

theorem firstIdx_cases (p : Int → Bool) (l : List Int) : (firstIdx' p l = -1 ∧ l.any p = false) ∨ ∃ i, ∃ h : i < l.length, firstIdx' p l = (i : Int) ∧ p l[i] = true ∧ (l.take i).any p = false := by
  unfold firstIdx'
  cases h : l.findIdx? p with
  | none =>
    left
    refine ⟨rfl, ?_⟩
    rw [List.any_eq_false]
    intro x hx
    have := List.findIdx?_eq_none_iff.1 h x hx
    simp [this]
  | some i =>
    right
    obtain ⟨hi, hp, hno⟩ := List.findIdx?_eq_some_iff_getElem.1 h
    refine ⟨i, hi, rfl, hp, ?_⟩
    rw [List.any_eq_false]
    intro x hx
    obtain ⟨j, hj, rfl⟩ := List.mem_take_iff_getElem.1 hx
    have := hno j (by omega)
    simpa using this
/-- what is kept -/
def kept (p : Int → Bool) (l : List Int) : List Int := l.filter fun x => !p x
theorem kept_take_succ (p : Int → Bool) (l : List Int) (k : Nat) (h : k < l.length) : kept p (l.take (k + 1)) = kept p (l.take k) ++ (if p l[k] = true then [] else [l[k]]) := by
  unfold kept
  rw [List.take_succ_eq_append_getElem h, List.filter_append]
  cases hp : p l[k] <;> simp [hp]
theorem kept_all (p : Int → Bool) (l : List Int) (h : l.any p = false) : kept p l = l := by
  unfold kept
  rw [List.filter_eq_self]
  intro x hx
  have := List.any_eq_false.1 h x hx
  simpa using this
theorem kept_len (p : Int → Bool) (l : List Int) : (kept p l).length ≤ l.length := List.length_filter_le _ _

/-- a row of integers, cell by cell -/
def RowF (w : World) (b off n : Nat) (f : Nat → Int) : Prop := ∀ q, q < n → w.cell? ⟨b, off + q, none⟩ = some (.int .i64 (f q))
theorem RowF.set {w : World} {b off n : Nat} {f : Nat → Int} (h : RowF w b off n f) (i : Nat) (hi : i < n) (u : Int) : RowF (w.setCell ⟨b, off + i, none⟩ (.int .i64 u)) b off n (fun q => if q = i then u else f q) := by
  intro q hq
  by_cases e : q = i
  · subst e
    rw [World.cell?_setCell_same _ _ _ (h q hq)]; simp
  · rw [World.cell?_setCell_other _ _ _ _ (fun h => by injection h with _ h; omega), h q hq]; simp [e]
theorem RowF.below {w w' : World} {b off n : Nat} {f : Nat → Int} (h : RowF w b off n f) (hb : Below w.heap.size w w') (hl : b < w.heap.size) : RowF w' b off n f := fun q hq => by
  rw [hb.cell (p := ⟨b, _, none⟩) hl]; exact h q hq
/-- the first cells as an owned slice -/
theorem RowF.own {w : World} {b off n c m : Nat} {f : Nat → Int} {l : List Int} (h : RowF w b off n f) (hl : l.length = m) (hm : m ≤ n) (hc : n ≤ c) (hcm : c ≤ maxLen) (hf : ∀ q (hq : q < l.length), f q = l[q]) (hfz : ∀ i, w.frozen? ⟨b, i, none⟩ = false) :
    ∃ fp, Own w (intsT l) (.slice (some ⟨b, off, none⟩) m c) fp ∧ ∀ y ∈ fp, y = b := by
  by_cases e : l = []
  · subst e
    exact ⟨[], ⟨Rep_sl.2 ⟨_, m, c, rfl, by simpa using hl, by omega, hcm, Or.inl ⟨rfl, rfl⟩⟩, List.nodup_nil, fun b h => by simp at h⟩, fun y hy => by simp at hy⟩
  · refine ⟨[b], ⟨Rep_sl.2 ⟨_, m, c, rfl, by simpa using hl, by omega, hcm, Or.inr ⟨b, off, [], by simpa using e, rfl, rfl, ?_⟩⟩, by simp, fun y hy i => ?_⟩, fun y hy => by simpa using hy⟩
    · have := Reps.lits (w := w) (l.map (Value.int .i64)) b off (fun i hi => by
        have hi' : i < l.length := by simpa using hi
        rw [h i (by omega), hf i hi']; simp)
      rw [List.map_map] at this
      exact this
    · obtain rfl : y = b := by simpa using hy
      exact hfz i
theorem frozen_setCells (b : Nat) : (vs : List Value) → (o : Nat) → (w : World) → (p : Addr) → (w.setCells b o vs).frozen? p = w.frozen? p := by
  intro vs
  induction vs with
  | nil => intro o w p; rfl
  | cons v vs ih => intro o w p; rw [World.setCells, ih, frozen_setCell]
theorem chg_setCells {fp : List Nat} {a : World} {b : Nat} : {w : World} → Chg fp a w → b ∈ fp → (vs : List Value) → (o : Nat) → Chg fp a (w.setCells b o vs) := by
  intro w h hb vs
  induction vs generalizing w with
  | nil => intro o; exact h
  | cons v vs ih => intro o; rw [World.setCells]; exact ih (h.setCell (p := ⟨b, o, none⟩) hb v) (o + 1)
set_option maxHeartbeats 2000000 in
theorem deleteFuncI_any (l : List Int) (p : Int → Bool) (fn : FuncId) (cap : List Value) (b off c : Nat) (w : World) (h : RowF w b off l.length (fun q => l.getD q 0)) (hc : l.length ≤ c) (hcm : c ≤ maxLen) (hbw : b < w.heap.size) (hfz : ∀ i, w.frozen? ⟨b, i, none⟩ = false) (hn : l.length ≤ 1048576)
    (hrd : Rd w.heap.size w (intsT l) (.slice (some ⟨b, off, none⟩) l.length c))
    (hcf : ∀ (args : Array Value) (W : World), (callFunc fn args).run Try.prog W = .ok (.enter fn args) W)
    (hf : ∀ x ∈ l, ∀ W : World, Chg [b] w W → Calls Try.prog fn (Value.int .i64 x :: cap).toArray W fun e W' => e = .returned (.bool (p x)) ∧ Below W.heap.size W W') :
    Calls Try.prog 27 #[.slice (some ⟨b, off, none⟩) l.length c, .func (.func fn) #[] cap.toArray] w fun e w' => ∃ fp, e = .returned (.slice (some ⟨b, off, none⟩) (kept p l).length c) ∧ Chg [b] w w' ∧ Own w' (intsT (kept p l)) (.slice (some ⟨b, off, none⟩) (kept p l).length c) fp ∧ ∀ y ∈ fp, y = b := by
  have HI := Lib.hid (indexFuncI_any l p fn cap _ w.heap.size w hrd (Nat.le_refl _) (by omega) hcf (fun x hx W hW => hf x hx W (Chg.of_below hW)))
  have hnb : (l.length : Int) ≤ 1048576 := by omega
  have HF := Lib.hid hf
  clear hrd hf
  rcases firstIdx_cases p l with ⟨e1, e2⟩ | ⟨i0, hi0, e1, e2, e3⟩
  · have hk := kept_all p l e2
    rw [hk]
    have E1 := Lib.hid e1
    clear e1 e2 hk
    go_enter Try.func27, Try.ntmps27
    go_wp2_with fail
    refine (HI.out).mono ?_
    rintro e w1 ⟨rfl, hb1⟩
    rw [E1.out]
    go_wp2
    go_ret
    obtain ⟨fp, h1, h2⟩ := (h.below hb1 hbw).own (l := l) rfl (Nat.le_refl _) hc hcm (fun q hq => by simp [hq]) (fun i => by rw [hb1.frozen (p := ⟨b, i, none⟩) hbw]; exact hfz i)
    exact ⟨fp, rfl, Chg.of_below hb1, h1, h2⟩
  · have E1 := Lib.hid e1
    have E2 := Lib.hid e2
    have E3 := Lib.hid e3
    clear e1 e2 e3
    have hne : ((i0 : Int) == -1) = false := by first | (simp; done) | (simp; omega)
    go_enter Try.func27, Try.ntmps27
    go_wp2_with fail
    refine (HI.out).mono ?_
    rintro e w1 ⟨rfl, hb1⟩
    rw [E1.out]
    have R1 := Lib.hid (h.below hb1 hbw)
    have F1 : Hid (∀ i, w1.frozen? ⟨b, i, none⟩ = false) := fun i => by rw [hb1.frozen (p := ⟨b, i, none⟩) hbw]; exact hfz i
    have C1 := Lib.hid (Chg.of_below (fp := [b]) hb1)
    have hbw1 : b < w1.heap.size := by have := hb1.size; omega
    clear hb1 h hfz
    go_wp2
    clear hne
    go_loopw [5, 6] (fun iv jv wr => ∃ (i j : Nat) (f : Nat → Int), i < j ∧ j ≤ l.length ∧ iv = .int .i64 i ∧ jv = .int .i64 j ∧ (kept p (l.take j)).length = i ∧ RowF wr b off l.length f ∧ (∀ q (hq : q < (kept p (l.take j)).length), f q = (kept p (l.take j))[q]) ∧ (∀ q (hq : q < l.length), j ≤ q → f q = l[q]) ∧ Chg [b] w wr ∧ (∀ q, wr.frozen? ⟨b, q, none⟩ = false) ∧ b < wr.heap.size) (fun _ jv wr => l.length - (intOf jv).toNat)
    case atStart =>
      have hk : kept p (l.take (i0 + 1)) = l.take i0 := by
        rw [kept_take_succ p l i0 hi0, if_pos E2.out, List.append_nil, kept_all p _ E3.out]
      refine ⟨i0, i0 + 1, fun q => l.getD q 0, by omega, by omega, rfl, by go_num, ?_, R1.out, ?_, ?_, C1.out, F1.out, hbw1⟩
      · rw [hk, List.length_take]; omega
      · intro q hq
        simp only [hk] at hq ⊢
        rw [List.length_take] at hq
        have : q < l.length := by omega
        simp [this]
      · intro q hq _
        simp [hq]
    case round =>
      obtain ⟨i, j, f, hij, hj, rfl, rfl, hlen, hrow, hkp, hrest, hchg, hfz, hbw2⟩ := hrel
      have HL := Lib.hid hlen
      have HR := Lib.hid hrow
      have HK := Lib.hid hkp
      have HRE := Lib.hid hrest
      have HC := Lib.hid hchg
      have HZ := Lib.hid hfz
      clear hlen hkp hrest hchg
      by_cases hlt : j < l.length
      · have s0 : wr.cell? ⟨b, off + j, none⟩ = some (.int .i64 l[j]) := by rw [hrow j hlt, HRE.out j hlt (Nat.le_refl _)]
        clear hrow hfz
        go_wp2_with fail
        refine (HF.out l[j] (List.getElem_mem hlt) _ HC.out).mono ?_
        rintro e w2 ⟨rfl, hb2⟩
        have R2 := Lib.hid (HR.out.below hb2 hbw2)
        have C2 := Lib.hid (HC.out.trans (Chg.of_below hb2))
        have Z2 : Hid (∀ i, w2.frozen? ⟨b, i, none⟩ = false) := fun i => by rw [hb2.frozen (p := ⟨b, i, none⟩) hbw2]; exact HZ.out i
        have hbw3 : b < w2.heap.size := by have := hb2.size; omega
        have HKS := Lib.hid (kept_take_succ p l j hlt)
        clear hb2 s0
        by_cases hp : p l[j] = true
        · rw [hp]
          have HP := Lib.hid hp
          clear hp
          go_wp2
          go_roundw
          case rel =>
            have hk : kept p (l.take (j + 1)) = kept p (l.take j) := by rw [HKS.out, if_pos HP.out, List.append_nil]
            refine ⟨i, j + 1, f, by omega, by omega, rfl, by go_num, by rw [hk]; exact HL.out, R2.out, ?_, fun q hq hjq => HRE.out q hq (by omega), C2.out, Z2.out, hbw3⟩
            intro q hq
            simp only [hk] at hq ⊢
            exact HK.out q hq
          case measure => simp [intOf]; omega
        · have hp' : p l[j] = false := by simpa using hp
          rw [hp']
          have HP := Lib.hid hp
          clear hp hp'
          have p0 := R2.out i (by omega)
          have z0 := Z2.out
          have i1 : (i : Int) < (l.length : Int) := by omega
          go_wp2
          go_roundw
          case rel =>
            have hk : kept p (l.take (j + 1)) = kept p (l.take j) ++ [l[j]] := by rw [HKS.out, if_neg HP.out]
            refine ⟨i + 1, j + 1, fun q => if q = i then l[j] else f q, by omega, by omega, by go_num, by go_num, by rw [hk, List.length_append, HL.out]; rfl, R2.out.set i (by omega) l[j], ?_, ?_, C2.out.setCell (by simp) _, fun q => by rw [frozen_setCell]; exact Z2.out q, by rw [size_setCell]; exact hbw3⟩
            · intro q hq
              simp only [hk] at hq ⊢
              rw [List.length_append, HL.out] at hq
              by_cases e : q = i
              · subst e
                rw [if_pos rfl, List.getElem_append_right (by rw [HL.out]; omega)]
                simp
              · rw [if_neg e, List.getElem_append_left (by rw [HL.out]; simp at hq; omega)]
                exact HK.out q (by rw [HL.out]; simp at hq; omega)
            · intro q hq hjq
              simp only
              rw [if_neg (by omega)]
              exact HRE.out q hq (by omega)
          case measure => simp [intOf]; omega
      · obtain rfl : j = l.length := by omega
        have i1 : (i : Int) ≤ (l.length : Int) := by omega
        have i2 : (i : Int) ≤ (c : Int) := by omega
        have i3 : (l.length : Int) ≤ (c : Int) := by omega
        have hcl : ∀ ty, (Builtin.clear_ #[28] ty #[.slice (some ⟨b, off + i, none⟩) (l.length - i) (c - i)]).run Try.prog wr = .ok (.tuple #[]) (wr.setCells b (off + i) (List.replicate (l.length - i) (.int .i64 0))) :=
          fun ty => Lib.run_clear_slice wr 28 2 ty (.int .i64 0) Try.underlying28 (fun _ => by kernel_rfl) rfl rfl b (off + i) _ _ (by omega) (fun t ht => by rw [Nat.add_assoc, hrow (i + t) (by omega)]; rfl) (fun t ht => HZ.out _)
        clear hrow hfz
        go_wp2
        go_ret
        have ht : kept p (l.take l.length) = kept p l := by rw [List.take_length]
        have hli : (kept p l).length = i := by rw [← ht]; exact HL.out
        have hrow2 : RowF (wr.setCells b (off + i) (List.replicate (l.length - i) (.int .i64 0))) b off i f := fun q hq => by
          rw [World.cell?_setCells_out b _ _ _ _ (fun _ _ => Or.inl (by show off + q < off + i; omega))]
          exact HR.out q (by omega)
        obtain ⟨fp, h1, h2⟩ := hrow2.own (l := kept p l) (m := i) (c := c) hli (Nat.le_refl _) (by omega) hcm (fun q hq => by
          have := HK.out q (by rw [ht]; exact hq)
          simp only [ht] at this
          exact this) (fun q => by rw [frozen_setCells]; exact HZ.out q)
        rw [hli]
        exact ⟨fp, rfl, chg_setCells HC.out (by simp) _ _, h1, h2⟩
end Go.Proofs.Ytpnllibboeeaaaa
