/- Contracts of small functions: within, l00In, and the slices package's searches over slices of integers. Conditions: bounded lengths. -/
import Derived.Test.YtpnllibboeeaaaaInts2
namespace Go.Proofs.Ytpnllibboeeaaaa
open Go.RowKit
set_option linter.unusedVariables false

def inB (n a b : Int) : Bool := decide (a ≤ n) && decide (n ≤ b)
theorem inB_true {n a b : Int} : inB n a b = true ↔ a ≤ n ∧ n ≤ b := by simp [inB]
theorem inB_false {n a b : Int} : inB n a b = false ↔ ¬ (a ≤ n ∧ n ≤ b) := by rw [← inB_true]; simp
theorem within_any (n a b : Int) (w : World) :
    Calls Try.prog 24 #[.int .i64 n, .int .i64 a, .int .i64 b] w fun e w' => e = .returned (.bool (inB n a b)) ∧ w = w' := by
  by_cases h1 : a ≤ n
  · have e : inB n a b = decide (n ≤ b) := by unfold inB; simp [h1]
    rw [e]; clear e
    go_enter Try.func24, Try.ntmps24
    go_wp2
    go_ret
    exact ⟨rfl, rfl⟩
  · have e : inB n a b = false := by unfold inB; simp [h1]
    rw [e]; clear e
    go_enter Try.func24, Try.ntmps24
    go_wp2
    go_ret
    exact ⟨rfl, rfl⟩
theorem l00In_any (n a b : Int) (w : World) :
    Calls Try.prog 38 #[.int .i64 n, .int .i64 a, .int .i64 b] w fun e w' => e = .returned (.bool (inB n a b)) ∧ w = w' := by
  by_cases h1 : a ≤ n
  · have e : inB n a b = decide (n ≤ b) := by unfold inB; simp [h1]
    rw [e]; clear e
    go_enter Try.func38, Try.ntmps38
    go_wp2
    go_ret
    exact ⟨rfl, rfl⟩
  · have e : inB n a b = false := by unfold inB; simp [h1]
    rw [e]; clear e
    go_enter Try.func38, Try.ntmps38
    go_wp2
    go_ret
    exact ⟨rfl, rfl⟩

/-- the index of the first element with a property, or -1 -/
def firstIdx' {α : Type} (p : α → Bool) (l : List α) : Int := match l.findIdx? p with | some i => i | none => -1
theorem any_take_succ {α : Type} (p : α → Bool) (l : List α) (k : Nat) (h : k < l.length) : (l.take (k + 1)).any p = ((l.take k).any p || p l[k]) := by
  rw [List.take_succ_eq_append_getElem h, List.any_append]; simp
theorem firstIdx_at {α : Type} (p : α → Bool) (l : List α) (k : Nat) (h : k < l.length) (hp : p l[k] = true) (hb : (l.take k).any p = false) : firstIdx' p l = k := by
  have : l.findIdx? p = some k := by
    rw [List.findIdx?_eq_some_iff_getElem]
    refine ⟨h, hp, fun j hj => ?_⟩
    have hm : l[j] ∈ l.take k := by
      rw [List.mem_take_iff_getElem]
      exact ⟨j, by omega, rfl⟩
    have := List.any_eq_false.1 hb l[j] hm
    simpa using this
  unfold firstIdx'; rw [this]
theorem firstIdx_none {α : Type} (p : α → Bool) (l : List α) (hb : l.any p = false) : firstIdx' p l = -1 := by
  have : l.findIdx? p = none := by
    rw [List.findIdx?_eq_none_iff]
    intro x hx
    have := List.any_eq_false.1 hb x hx
    simpa using this
  unfold firstIdx'; rw [this]
theorem firstIdx_nonneg' {α : Type} (p : α → Bool) (l : List α) : decide (0 ≤ firstIdx' p l) = l.any p := by
  unfold firstIdx'
  cases h : l.findIdx? p with
  | none =>
    have : l.any p = false := by
      rw [List.any_eq_false]
      intro x hx
      have := List.findIdx?_eq_none_iff.1 h x hx
      simp [this]
    rw [this]; rfl
  | some i =>
    have : l.any p = true := by
      rw [List.any_eq_true]
      obtain ⟨hi, hp, _⟩ := List.findIdx?_eq_some_iff_getElem.1 h
      exact ⟨l[i], List.getElem_mem hi, hp⟩
    rw [this]; simp
theorem firstIdx_bounds {α : Type} (p : α → Bool) (l : List α) : -1 ≤ firstIdx' p l ∧ firstIdx' p l < l.length := by
  unfold firstIdx'
  cases h : l.findIdx? p with
  | none => simp; omega
  | some i =>
    obtain ⟨hi, _, _⟩ := List.findIdx?_eq_some_iff_getElem.1 h
    refine ⟨?_, ?_⟩ <;> simp <;> omega

theorem indexFuncI_any (l : List Int) (p : Int → Bool) (fn : FuncId) (cap : List Value) (v : Value) (B : Nat) (w : World) (h : Rd B w (intsT l) v) (hB : B ≤ w.heap.size) (hn : l.length ≤ 1099511627776)
    (hcf : ∀ (args : Array Value) (W : World), (callFunc fn args).run Try.prog W = .ok (.enter fn args) W)
    (hf : ∀ x ∈ l, ∀ W : World, Below w.heap.size w W → Calls Try.prog fn (Value.int .i64 x :: cap).toArray W fun e W' => e = .returned (.bool (p x)) ∧ Below W.heap.size W W') :
    Calls Try.prog 41 #[v, .func (.func fn) #[] cap.toArray] w fun e w' => e = .returned (.int .i64 (firstIdx' p l)) ∧ Below w.heap.size w w' := by
  obtain ⟨a, c, rfl, hnc, hcm, hcells⟩ := h.ints
  clear h
  have hnb : (l.length : Int) ≤ 1099511627776 := by omega
  have HF := Lib.hid hf
  clear hf
  go_enter Try.func41, Try.ntmps41
  go_wp2
  go_loopw [8] (fun i wr => ∃ (k : Nat), k ≤ l.length ∧ i = .int .i64 k ∧ (l.take k).any p = false ∧ Below w.heap.size w wr) (fun i wr => l.length - (intOf i).toNat)
  case atStart => exact ⟨0, Nat.zero_le _, rfl, by simp, Below.refl _ _⟩
  case round =>
    obtain ⟨k, hk, rfl, hno, hb⟩ := hrel
    have HN := Lib.hid hno
    clear hno
    by_cases hlt : k < l.length
    · obtain ⟨b, off, rfl, hbl, hat⟩ := hcells (by omega)
      have s0 := hat k hlt
      rw [← hb.cell (p := ⟨b, _, none⟩) (show b < w.heap.size by omega)] at s0
      have HB := Lib.hid hb
      clear hcells hat hb
      go_wp2_with fail
      refine (HF.out l[k] (List.getElem_mem hlt) _ HB.out).mono ?_
      rintro e w1 ⟨rfl, hb1⟩
      have HB1 := Lib.hid (HB.out.trans (hb1.mono HB.out.size))
      clear hb1
      by_cases hp : p l[k] = true
      · go_wp2
        go_ret
        exact ⟨by rw [firstIdx_at p l k hlt hp HN.out]; rfl, HB1.out⟩
      · have hp' : p l[k] = false := by simpa using hp
        clear hp
        go_wp2
        go_roundw
        case rel => exact ⟨k + 1, by omega, by go_num, by rw [any_take_succ p l k hlt, HN.out, hp']; rfl, HB1.out⟩
        case measure => simp [intOf]; omega
    · obtain rfl : k = l.length := by omega
      clear hcells
      go_wp2
      go_ret
      have := HN.out
      rw [List.take_length] at this
      exact ⟨by rw [firstIdx_none p l this]; rfl, hb⟩
theorem containsFuncI_any (l : List Int) (p : Int → Bool) (fn : FuncId) (cap : List Value) (v : Value) (B : Nat) (w : World) (h : Rd B w (intsT l) v) (hB : B ≤ w.heap.size) (hn : l.length ≤ 1099511627776)
    (hcf : ∀ (args : Array Value) (W : World), (callFunc fn args).run Try.prog W = .ok (.enter fn args) W)
    (hf : ∀ x ∈ l, ∀ W : World, Below w.heap.size w W → Calls Try.prog fn (Value.int .i64 x :: cap).toArray W fun e W' => e = .returned (.bool (p x)) ∧ Below W.heap.size W W') :
    Calls Try.prog 35 #[v, .func (.func fn) #[] cap.toArray] w fun e w' => e = .returned (.bool (l.any p)) ∧ Below w.heap.size w w' := by
  have HC := Lib.hid (indexFuncI_any l p fn cap v B w h hB hn hcf hf)
  have HE := Lib.hid (firstIdx_nonneg' p l)
  clear hf h hcf
  generalize l.any p = r at *
  go_enter Try.func35, Try.ntmps35
  go_wp2_with fail
  refine (HC.out).mono ?_
  rintro e w1 ⟨rfl, hb1⟩
  have he := HE.out
  generalize firstIdx' p l = m at *
  go_wp2
  go_ret
  exact ⟨rfl, hb1⟩
theorem indexI_any (l : List Int) (x : Int) (v : Value) (B : Nat) (w : World) (h : Rd B w (intsT l) v) (hB : B ≤ w.heap.size) (hn : l.length ≤ 1099511627776) :
    Calls Try.prog 42 #[v, .int .i64 x] w fun e w' => e = .returned (.int .i64 (firstIdx' (fun y => x == y) l)) ∧ w = w' := by
  obtain ⟨a, c, rfl, hnc, hcm, hcells⟩ := h.ints
  clear h
  have hnb : (l.length : Int) ≤ 1099511627776 := by omega
  go_enter Try.func42, Try.ntmps42
  go_wp2
  go_loop [8] (fun i => ∃ (k : Nat), k ≤ l.length ∧ i = .int .i64 k ∧ (l.take k).any (fun y => x == y) = false) (fun i => l.length - (intOf i).toNat)
  case atStart => exact ⟨0, Nat.zero_le _, rfl, by simp⟩
  case round =>
    obtain ⟨k, hk, rfl, hno⟩ := hrel
    have HN := Lib.hid hno
    clear hno
    by_cases hlt : k < l.length
    · obtain ⟨b, off, rfl, hbl, hat⟩ := hcells (by omega)
      have s0 := hat k hlt
      clear hcells hat
      by_cases hp : (x == l[k]) = true
      · go_wp2
        go_ret
        exact ⟨by rw [firstIdx_at (fun y => x == y) l k hlt hp HN.out]; rfl, rfl⟩
      · have hp' : (x == l[k]) = false := by simpa using hp
        clear hp
        go_wp2
        go_round
        case rel => exact ⟨k + 1, by omega, by go_num, by rw [any_take_succ _ l k hlt, HN.out, hp']; rfl⟩
        case measure => simp [intOf]; omega
    · obtain rfl : k = l.length := by omega
      clear hcells
      go_wp2
      go_ret
      have := HN.out
      rw [List.take_length] at this
      exact ⟨by rw [firstIdx_none _ l this]; rfl, rfl⟩
theorem containsI_any (l : List Int) (x : Int) (v : Value) (B : Nat) (w : World) (h : Rd B w (intsT l) v) (hB : B ≤ w.heap.size) (hn : l.length ≤ 1099511627776) :
    Calls Try.prog 29 #[v, .int .i64 x] w fun e w' => e = .returned (.bool (l.any (fun y => x == y))) ∧ w = w' := by
  have HC := Lib.hid (indexI_any l x v B w h hB hn)
  have HE := Lib.hid (firstIdx_nonneg' (fun y => x == y) l)
  clear h
  generalize l.any (fun y => x == y) = r at *
  go_enter Try.func29, Try.ntmps29
  go_wp2_with fail
  refine (HC.out).mono ?_
  rintro e w1 ⟨rfl, rfl⟩
  have he := HE.out
  generalize firstIdx' (fun y => x == y) l = m at *
  go_wp2
  go_ret
  exact ⟨rfl, rfl⟩
theorem allWithin_any (l : List Int) (lo hi : Int) (v : Value) (B : Nat) (w : World) (h : Rd B w (intsT l) v) (hB : B ≤ w.heap.size) (hn : l.length ≤ 1099511627776) :
    Calls Try.prog 20 #[v, .int .i64 lo, .int .i64 hi] w fun e w' => e = .returned (.bool (l.all fun n => inB n lo hi)) ∧ Below w.heap.size w w' := by
  have b0 : Below w.heap.size w ((w.alloc (.cells #[.int .i64 lo] 2)).alloc (.cells #[.int .i64 hi] 2)) := ((Below.refl _ _).alloc (Nat.le_refl _) _).alloc (by simp) _
  have HC := Lib.hid (containsFuncI_any l (fun n => !inB n lo hi) 36 [.pointer (some ⟨w.heap.size, 0, none⟩), .pointer (some ⟨w.heap.size + 1, 0, none⟩)] v B ((w.alloc (.cells #[.int .i64 lo] 2)).alloc (.cells #[.int .i64 hi] 2)) (h.below (b0.mono hB)) (by simp; omega) hn (fun _ _ => by kernel_rfl) (fun x _ W hW => by
    have c1 : W.cell? ⟨w.heap.size, 0, none⟩ = some (.int .i64 lo) := by rw [hW.cell (p := ⟨w.heap.size, 0, none⟩) (by simp; omega)]; simp [go_sem]
    have c2 : W.cell? ⟨w.heap.size + 1, 0, none⟩ = some (.int .i64 hi) := by rw [hW.cell (p := ⟨w.heap.size + 1, 0, none⟩) (by simp)]; simp [go_sem]
    clear hW
    go_enter Try.func36, Try.ntmps36
    go_wp2_with (go_at_call 24; refine (within_any _ _ _ _).mono ?_; rintro e w' ⟨rfl, rfl⟩)
    go_ret
    exact ⟨rfl, Below.refl _ _⟩))
  have B0 := Lib.hid b0
  have he : (!(l.any fun n => !inB n lo hi)) = (l.all fun n => inB n lo hi) := by
    rw [List.not_any_eq_all_not]; simp
  have HE := Lib.hid he
  clear he
  clear b0 h
  generalize (l.any fun n => !inB n lo hi) = r at *
  generalize (l.all fun n => inB n lo hi) = r2 at *
  go_enter Try.func20, Try.ntmps20
  go_wp2_with fail
  refine (HC.out).mono ?_
  rintro e w1 ⟨rfl, hb1⟩
  go_wp2
  go_ret
  exact ⟨by rw [← HE.out]; rfl, B0.out.trans (hb1.mono (by simp; omega))⟩
end Go.Proofs.Ytpnllibboeeaaaa
