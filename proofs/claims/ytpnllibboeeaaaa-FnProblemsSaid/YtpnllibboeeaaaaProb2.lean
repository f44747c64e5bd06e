/- Contracts: domains of problems, for the program and for the reference, continued. Conditions: bounded lengths. -/
import Derived.Test.YtpnllibboeeaaaaProb1
namespace Go.Proofs.Ytpnllibboeeaaaa
open Go.RowKit
set_option linter.unusedVariables false

def domB (d : List Int) : Bool := decide (1 ≤ d.length) && (decide (d.length ≤ 32) && risesB d 0 999)
theorem domainOk_any (l : List Int) (v : Value) (B : Nat) (w : World) (h : Rd B w (intsT l) v) (hB : B ≤ w.heap.size) (hn : l.length ≤ 1099511627776) :
    Calls Try.prog 47 #[v] w fun e w' => e = .returned (.bool (domB l)) ∧ Below w.heap.size w w' := by
  have hin := increasing_any l v B w h hB hn
  have hal := fun (W : World) (hb : Below w.heap.size w W) => allWithin_any l 0 999 v B W (h.below (hb.mono hB)) (by have := hb.size; omega) hn
  have HI := Lib.hid hin
  have HA := Lib.hid hal
  obtain ⟨a, c, rfl, hnc, hcm, _⟩ := h.ints
  clear h hin hal
  have hnb : (l.length : Int) ≤ 1099511627776 := by omega
  by_cases c1 : 1 ≤ l.length
  · have d1 : decide (1 ≤ l.length) = true := by simpa using c1
    by_cases c2 : l.length ≤ 32
    · have d2 : decide (l.length ≤ 32) = true := by simpa using c2
      have e : domB l = (incB l && l.all fun n => inB n 0 999) := by unfold domB risesB; simp [d1, d2]
      rw [e]; clear e
      generalize (l.all fun n => inB n 0 999) = r at *
      by_cases c3 : incB l = true
      · rw [c3, Bool.true_and]
        have HC := Lib.hid c3
        clear c3
        go_enter Try.func47, Try.ntmps47
        go_wp2_with fail
        refine (HI.out).mono ?_
        rintro e w1 ⟨rfl, hb1⟩
        rw [HC.out]
        go_wp2_with fail
        refine (HA.out _ hb1).mono ?_
        rintro e w2 ⟨rfl, hb2⟩
        go_wp2
        go_ret
        exact ⟨rfl, hb1.trans (hb2.mono hb1.size)⟩
      · have c3' : incB l = false := by simpa using c3
        rw [c3', Bool.false_and]
        have HC := Lib.hid c3'
        clear c3 c3'
        go_enter Try.func47, Try.ntmps47
        go_wp2_with fail
        refine (HI.out).mono ?_
        rintro e w1 ⟨rfl, hb1⟩
        rw [HC.out]
        go_wp2
        go_ret
        exact ⟨rfl, hb1⟩
    · have d2 : decide (l.length ≤ 32) = false := by simpa using c2
      have e : domB l = false := by unfold domB; simp [d2]
      rw [e]; clear e
      go_enter Try.func47, Try.ntmps47
      go_wp2
      go_ret
      exact ⟨rfl, Below.refl _ _⟩
  · have d1 : decide (1 ≤ l.length) = false := by simpa using c1
    have e : domB l = false := by unfold domB; simp [d1]
    rw [e]; clear e
    go_enter Try.func47, Try.ntmps47
    go_wp2
    go_ret
    exact ⟨rfl, Below.refl _ _⟩
theorem l17Domain_any (l : List Int) (v : Value) (B : Nat) (w : World) (h : Rd B w (intsT l) v) (hB : B ≤ w.heap.size) (hn : l.length ≤ 1099511627776) :
    Calls Try.prog 37 #[v] w fun e w' => e = .returned (.bool (domB l)) ∧ Below w.heap.size w w' := by
  have HI := Lib.hid (l00Rises_any l 0 999 v B w h hB hn)
  obtain ⟨a, c, rfl, hnc, hcm, _⟩ := h.ints
  clear h
  have hnb : (l.length : Int) ≤ 1099511627776 := by omega
  by_cases c1 : 1 ≤ l.length
  · have d1 : decide (0 < l.length) = true := decide_eq_true (by omega)
    by_cases c2 : l.length ≤ 32
    · have d2 : decide (l.length ≤ 32) = true := by simpa using c2
      have e : domB l = risesB l 0 999 := by unfold domB; simp [d2]; omega
      rw [e]; clear e
      go_enter Try.func37, Try.ntmps37
      go_wp2_with fail
      refine (HI.out).mono ?_
      rintro e w1 ⟨rfl, hb1⟩
      go_wp2
      go_ret
      exact ⟨rfl, hb1⟩
    · have d2 : decide (l.length ≤ 32) = false := by simpa using c2
      have e : domB l = false := by unfold domB; simp [d2]
      rw [e]; clear e
      go_enter Try.func37, Try.ntmps37
      go_wp2
      go_ret
      exact ⟨rfl, Below.refl _ _⟩
  · have d1 : decide (0 < l.length) = false := decide_eq_false (by omega)
    have e : domB l = false := by unfold domB; rw [decide_eq_false c1]; rfl
    rw [e]; clear e
    go_enter Try.func37, Try.ntmps37
    go_wp2
    go_ret
    exact ⟨rfl, Below.refl _ _⟩
theorem indexFuncII_any (l : List (List Int)) (p : List Int → Bool) (fn : FuncId) (cap : List Value) (v : Value) (B : Nat) (w : World) (h : Rd B w (intssT l) v) (hB : B ≤ w.heap.size) (hn : l.length ≤ 1099511627776)
    (hcf : ∀ (args : Array Value) (W : World), (callFunc fn args).run Try.prog W = .ok (.enter fn args) W)
    (hf : ∀ x ∈ l, ∀ (u : Value) (W : World), Rd B W (intsT x) u → Below w.heap.size w W → Calls Try.prog fn (u :: cap).toArray W fun e W' => e = .returned (.bool (p x)) ∧ Below W.heap.size W W') :
    Calls Try.prog 49 #[v, .func (.func fn) #[] cap.toArray] w fun e w' => e = .returned (.int .i64 (firstIdx' p l)) ∧ Below w.heap.size w w' := by
  obtain ⟨a, c, rfl, hnc, hcm, hcells⟩ := h.intss
  clear h
  have hnb : (l.length : Int) ≤ 1099511627776 := by omega
  have HF := Lib.hid hf
  clear hf
  go_enter Try.func49, Try.ntmps49
  go_wp2
  go_loopw [8] (fun i wr => ∃ (k : Nat), k ≤ l.length ∧ i = .int .i64 k ∧ (l.take k).any p = false ∧ Below w.heap.size w wr) (fun i wr => l.length - (intOf i).toNat)
  case atStart => exact ⟨0, Nat.zero_le _, rfl, by simp, Below.refl _ _⟩
  case round =>
    obtain ⟨k, hk, rfl, hno, hb⟩ := hrel
    have HN := Lib.hid hno
    clear hno
    by_cases hlt : k < l.length
    · obtain ⟨b, off, rfl, hbl, hat⟩ := hcells (by omega)
      obtain ⟨u, s0, hu⟩ := hat k hlt
      rw [← hb.cell (p := ⟨b, _, none⟩) (show b < w.heap.size by omega)] at s0
      have HU := Lib.hid (hu.below (hb.mono hB))
      have HB := Lib.hid hb
      clear hcells hat hb hu
      go_wp2_with fail
      refine (HF.out l[k] (List.getElem_mem hlt) u _ HU.out HB.out).mono ?_
      rintro e w1 ⟨rfl, hb1⟩
      have HB1 := Lib.hid (HB.out.trans (hb1.mono HB.out.size))
      clear hb1
      by_cases hp : p l[k] = true
      · go_wp2
        go_ret
        exact ⟨by rw [firstIdx_at p l k hlt hp HN.out]; rfl, HB1.out⟩
      · have hp' : p l[k] = false := by simpa using hp
        clear hp
        go_wp2
        go_roundw
        case rel => exact ⟨k + 1, by omega, by go_num, by rw [any_take_succ p l k hlt, HN.out, hp']; rfl, HB1.out⟩
        case measure => simp [intOf]; omega
    · obtain rfl : k = l.length := by omega
      clear hcells
      go_wp2
      go_ret
      have := HN.out
      rw [List.take_length] at this
      exact ⟨by rw [firstIdx_none p l this]; rfl, hb⟩
theorem containsFuncII_any (l : List (List Int)) (p : List Int → Bool) (fn : FuncId) (cap : List Value) (v : Value) (B : Nat) (w : World) (h : Rd B w (intssT l) v) (hB : B ≤ w.heap.size) (hn : l.length ≤ 1099511627776)
    (hcf : ∀ (args : Array Value) (W : World), (callFunc fn args).run Try.prog W = .ok (.enter fn args) W)
    (hf : ∀ x ∈ l, ∀ (u : Value) (W : World), Rd B W (intsT x) u → Below w.heap.size w W → Calls Try.prog fn (u :: cap).toArray W fun e W' => e = .returned (.bool (p x)) ∧ Below W.heap.size W W') :
    Calls Try.prog 45 #[v, .func (.func fn) #[] cap.toArray] w fun e w' => e = .returned (.bool (l.any p)) ∧ Below w.heap.size w w' := by
  have HC := Lib.hid (indexFuncII_any l p fn cap v B w h hB hn hcf hf)
  have HE := Lib.hid (firstIdx_nonneg' p l)
  clear hf h hcf
  generalize l.any p = r at *
  go_enter Try.func45, Try.ntmps45
  go_wp2_with fail
  refine (HC.out).mono ?_
  rintro e w1 ⟨rfl, hb1⟩
  have he := HE.out
  generalize firstIdx' p l = m at *
  go_wp2
  go_ret
  exact ⟨rfl, hb1⟩
def domsB (l : List (List Int)) : Bool := decide (1 ≤ l.length) && (decide (l.length ≤ 24) && l.all domB)
theorem domainsOk_any (l : List (List Int)) (v : Value) (B : Nat) (w : World) (h : Rd B w (intssT l) v) (hB : B ≤ w.heap.size) (hn : l.length ≤ 1099511627776) (hm : sumLen l ≤ 1099511627776) :
    Calls Try.prog 33 #[v] w fun e w' => e = .returned (.bool (domsB l)) ∧ Below w.heap.size w w' := by
  have HC := Lib.hid (containsFuncII_any l (fun d => !domB d) 46 [] v B w h hB hn (fun _ _ => by kernel_rfl) (fun x hx u W hu hW => by
    have hlx : x.length ≤ 1099511627776 := by
      obtain ⟨i, hi, rfl⟩ := List.getElem_of_mem hx
      have := sumLen_get_le l i hi
      omega
    have HD := Lib.hid (domainOk_any x u B W hu (by have := hW.size; omega) hlx)
    clear hu hW
    go_enter Try.func46, Try.ntmps46
    go_wp2_with fail
    refine (HD.out).mono ?_
    rintro e w1 ⟨rfl, hb1⟩
    go_wp2
    go_ret
    exact ⟨rfl, hb1⟩))
  obtain ⟨a, c, rfl, hnc, hcm, _⟩ := h.intss
  clear h
  have hnb : (l.length : Int) ≤ 1099511627776 := by omega
  by_cases c1 : 1 ≤ l.length
  · have d1 : decide (1 ≤ l.length) = true := by simpa using c1
    by_cases c2 : l.length ≤ 24
    · have d2 : decide (l.length ≤ 24) = true := by simpa using c2
      have e : domsB l = !(l.any fun d => !domB d) := by unfold domsB; rw [List.not_any_eq_all_not]; simp [d1, d2]
      rw [e]; clear e
      generalize (l.any fun d => !domB d) = r at *
      go_enter Try.func33, Try.ntmps33
      go_wp2_with fail
      refine (HC.out).mono ?_
      rintro e w1 ⟨rfl, hb1⟩
      go_wp2
      go_ret
      exact ⟨rfl, hb1⟩
    · have d2 : decide (l.length ≤ 24) = false := by simpa using c2
      have e : domsB l = false := by unfold domsB; simp [d2]
      rw [e]; clear e
      go_enter Try.func33, Try.ntmps33
      go_wp2
      go_ret
      exact ⟨rfl, Below.refl _ _⟩
  · have d1 : decide (1 ≤ l.length) = false := by simpa using c1
    have e : domsB l = false := by unfold domsB; simp [d1]
    rw [e]; clear e
    go_enter Try.func33, Try.ntmps33
    go_wp2
    go_ret
    exact ⟨rfl, Below.refl _ _⟩
end Go.Proofs.Ytpnllibboeeaaaa
