/- Contract: a matrix of differences of channels is valid, for the reference. Conditions: bounded lengths. -/
import Derived.Test.YtlfkdhakibagaaaGreatPl7
namespace Go.Proofs.YtlfkdhakibagaaaGreat
open Go.RowKit
set_option linter.unusedVariables false
set_option linter.unusedSimpArgs false

def rowI (m : List (List Int)) (i : Nat) : List Int := m.getD i []
theorem rowI_eq {m : List (List Int)} {i : Nat} (h : i < m.length) : m[i] = rowI m i := by simp [rowI, h]
def cellS (m : List (List Int)) (i k : Nat) : Bool := inB (gi (rowI m i) k) 0 100 && (gi (rowI m i) k == gi (rowI m k) i)
def apAtS (m : List (List Int)) (n i : Nat) : Bool := decide ((rowI m i).length = n) && ((gi (rowI m i) i == 0) && (List.range i).all (cellS m i))
def apS (m : List (List Int)) (n : Nat) : Bool := decide (m.length = n) && (List.range n).all (apAtS m n)
def apAtI (m : List (List Int)) (n i : Nat) : Bool := decide ((rowI m i).length = n) && (((rowI m i).all fun x => inB x 0 100) && ((gi (rowI m i) i == 0) && (List.range i).all (fun k => gi (rowI m i) k == gi (rowI m k) i)))
def apI (m : List (List Int)) (n : Nat) : Bool := decide (m.length = n) && (List.range m.length).all (apAtI m m.length)
theorem apI_eq (m : List (List Int)) (n : Nat) : apI m n = apS m n := by
  unfold apI apS
  by_cases hn : m.length = n
  case neg => rw [decide_eq_false hn]; rfl
  subst hn
  rw [decide_eq_true rfl, Bool.true_and, Bool.true_and, Bool.eq_iff_iff, List.all_eq_true, List.all_eq_true]
  constructor
  · intro h i hi
    have hi' : i < m.length := by simpa using hi
    have := h i hi
    simp only [apAtI, Bool.and_eq_true, decide_eq_true_eq, List.all_eq_true] at this
    obtain ⟨h1, h2, h3, h4⟩ := this
    simp only [apAtS, Bool.and_eq_true, decide_eq_true_eq, List.all_eq_true, cellS]
    refine ⟨h1, h3, fun k hk => ⟨?_, h4 k hk⟩⟩
    have hk' : k < i := by simpa using hk
    rw [← gi_eq (show k < (rowI m i).length by omega)]
    exact h2 _ (List.getElem_mem _)
  · intro h i hi
    have hi' : i < m.length := by simpa using hi
    have H : ∀ i, i < m.length → (rowI m i).length = m.length ∧ (gi (rowI m i) i == 0) = true ∧ ∀ k, k < i → inB (gi (rowI m i) k) 0 100 = true ∧ (gi (rowI m i) k == gi (rowI m k) i) = true := by
      intro i hi
      have := h i (by simpa using hi)
      simp only [apAtS, Bool.and_eq_true, decide_eq_true_eq, List.all_eq_true, cellS] at this
      exact ⟨this.1, this.2.1, fun k hk => this.2.2 k (by simpa using hk)⟩
    obtain ⟨h1, h2, h3⟩ := H i hi'
    simp only [apAtI, Bool.and_eq_true, decide_eq_true_eq, List.all_eq_true]
    refine ⟨h1, fun x hx => ?_, h2, fun k hk => (h3 k (by simpa using hk)).2⟩
    obtain ⟨k, hk, rfl⟩ := List.getElem_of_mem hx
    rw [gi_eq hk]
    rcases Nat.lt_trichotomy k i with e | e | e
    · exact (h3 k e).1
    · subst e
      rw [eq_of_beq h2]
      rfl
    · have := (H k (by omega)).2.2 i e
      rw [← eq_of_beq this.2]
      exact this.1
theorem apAtS_len {m : List (List Int)} {n i : Nat} (h : apAtS m n i = true) : (rowI m i).length = n := by
  unfold apAtS at h
  rw [Bool.and_eq_true] at h
  exact of_decide_eq_true h.1
theorem Rd.rows {B : Nat} {w : World} {m : List (List Int)} {a : Option Addr} {c : Nat} (h : Rd B w (intssT m) (.slice a m.length c)) (hm : 0 < m.length) :
    ∃ b off, a = some ⟨b, off, none⟩ ∧ b < B ∧ ∀ i, i < m.length → ∃ ai ci, w.cell? ⟨b, off + i, none⟩ = some (.slice ai (rowI m i).length ci) ∧ Rd B w (intsT (rowI m i)) (.slice ai (rowI m i).length ci) ∧ (0 < (rowI m i).length → ∃ bi oi, ai = some ⟨bi, oi, none⟩ ∧ bi < B ∧
      ∀ j, j < (rowI m i).length → w.cell? ⟨bi, oi + j, none⟩ = some (.int .i64 (gi (rowI m i) j))) := by
  obtain ⟨a', c', he, _, _, hcl⟩ := Rd.intss h
  injection he with e1 _ e3
  subst e1 e3
  obtain ⟨b, off, ha, hb, hat⟩ := hcl hm
  refine ⟨b, off, ha, hb, fun i hi => ?_⟩
  obtain ⟨u, hu, hr⟩ := hat i hi
  rw [rowI_eq hi] at hr
  obtain ⟨ai, ci, rfl, _, _, hci⟩ := Rd.ints hr
  refine ⟨ai, ci, hu, hr, fun hp => ?_⟩
  obtain ⟨bi, oi, e, hbi, hc⟩ := hci hp
  exact ⟨bi, oi, e, hbi, fun j hj => by rw [hc j hj, gi_eq hj]⟩
set_option maxHeartbeats 8000000 in
set_option maxRecDepth 100000 in
theorem l30Apart_any (m : List (List Int)) (n : Nat) (v : Value) (B : Nat) (w : World) (h : Rd B w (intssT m) v) (hB : B ≤ w.heap.size) (hl : m.length ≤ 1099511627776) (hn : n ≤ 1099511627776) (hr : ∀ i, i < m.length → (rowI m i).length ≤ 1099511627776) :
    Calls Tryz.prog 101 #[v, .int .i64 (n : Int)] w fun e w' => e = .returned (.bool (apS m n)) ∧ Below w.heap.size w w' := by
  obtain ⟨a, c, rfl, _, _, _⟩ := Rd.intss h
  have HRD := Lib.hid h
  clear h
  have hli : (m.length : Int) ≤ 1099511627776 := by omega
  have hni : (n : Int) ≤ 1099511627776 := by omega
  by_cases hmn : m.length = n
  case neg =>
    have HE : Hid (apS m n = false) := by show _ = _; unfold apS; rw [decide_eq_false hmn]; rfl
    have hne : ((m.length : Int) != (n : Int)) = true := by simp; omega
    go_enter Tryz.func101, Tryz.ntmps101
    go_wp2
    go_ret
    exact ⟨by rw [HE.out]; rfl, Below.refl _ _⟩
  have HE : Hid (apS m n = (List.range n).all (apAtS m n)) := by show _ = _; unfold apS; rw [decide_eq_true hmn, Bool.true_and]
  have hne : ((m.length : Int) != (n : Int)) = false := by simp; omega
  have HMN := Lib.hid hmn
  clear hmn
  go_enter Tryz.func101, Tryz.ntmps101
  go_wp2
  go_loopw [5] (fun i wr => ∃ (k : Nat), k ≤ n ∧ i = .int .i64 k ∧ (∀ j, j < k → apAtS m n j = true) ∧ Below w.heap.size w wr) (fun i wr => n - (intOf i).toNat)
  case atStart => exact ⟨0, Nat.zero_le _, rfl, fun j hj => absurd hj (by omega), Below.refl _ _⟩
  case round =>
    obtain ⟨k, hk, rfl, hno, hb⟩ := hrel
    have HN := Lib.hid hno
    have HB := Lib.hid hb
    have zb := hb.size
    clear hno hb
    by_cases hlt : k < n
    · have hkm : k < m.length := by rw [HMN.out]; exact hlt
      obtain ⟨b, off, ea, hbl, hat⟩ := HRD.out.rows (by omega)
      subst ea
      have HAT := Lib.hid hat
      obtain ⟨ak, ck, sk, _, hck⟩ := hat k hkm
      have hrk := hr k hkm
      clear hat
      have hbw : b < w.heap.size := by omega
      rw [← bat HB.out b _ hbw] at sk
      have i1 : (0 : Int) ≤ (k : Int) := by omega
      have i2 : (k : Int) < (n : Int) := by omega
      have i3 : (k : Int) < (m.length : Int) := by omega
      have HA : Hid (apAtS m n k = (decide ((rowI m k).length = n) && ((gi (rowI m k) k == 0) && (List.range k).all (cellS m k)))) := rfl
      by_cases a0 : (rowI m k).length = n
      case neg =>
        have hn1 : (((rowI m k).length : Int) != (n : Int)) = true := by simp; omega
        have HQ : Hid (apS m n = false) := by show _ = _; rw [HE.out]; exact allR_false hlt (by rw [HA.out, decide_eq_false a0]; rfl)
        clear hck
        go_wp2
        go_ret
        exact ⟨by rw [HQ.out]; rfl, HB.out⟩
      have hn1 : (((rowI m k).length : Int) != (n : Int)) = false := by simp; omega
      have i4 : (k : Int) < ((rowI m k).length : Int) := by omega
      obtain ⟨bk, ok, ea, hbk, hcz⟩ := hck (by omega)
      subst ea
      have HCK := Lib.hid hcz
      have tk := hcz k (by omega)
      clear hck hcz
      rw [← bat HB.out bk _ (by omega)] at tk
      by_cases a1 : (gi (rowI m k) k == 0) = true
      case neg =>
        replace a1 : (gi (rowI m k) k == 0) = false := Bool.eq_false_iff.2 a1
        have hn2 : (gi (rowI m k) k != 0) = true := by rw [bne, a1]; rfl
        have HQ : Hid (apS m n = false) := by show _ = _; rw [HE.out]; exact allR_false hlt (by rw [HA.out, a1]; simp)
        generalize gi (rowI m k) k = x at *
        go_wp2
        go_ret
        exact ⟨by rw [HQ.out]; rfl, HB.out⟩
      have hn2 : (gi (rowI m k) k != 0) = false := by rw [bne, a1]; rfl
      have HX : Hid ((List.range k).all (cellS m k) = true → apAtS m n k = true) := fun e => by rw [HA.out, decide_eq_true a0, a1, e]; rfl
      have HY : Hid ((List.range k).all (cellS m k) = false → apS m n = false) := fun e => by rw [HE.out]; exact allR_false hlt (by rw [HA.out, e]; simp)
      have HA1 := Lib.hid a1
      have tk2 := tk
      generalize gi (rowI m k) k = x at hn2 tk2
      clear tk a1
      go_wp2
      clear tk2 hn2 hne hn1 sk
      go_loopw [6] (fun i wr => ∃ (q : Nat), q ≤ k ∧ i = .int .i64 q ∧ (∀ j, j < q → cellS m k j = true) ∧ Below w.heap.size w wr) (fun i wr => k - (intOf i).toNat)
      case atStart => exact ⟨0, Nat.zero_le _, rfl, fun j hj => absurd hj (by omega), HB.out⟩
      case round =>
        obtain ⟨q, hq, rfl, hno2, hb2⟩ := hrel
        have HN2 := Lib.hid hno2
        have HB2 := Lib.hid hb2
        have zb2 := hb2.size
        clear hno2 hb2
        by_cases hqk : q < k
        · have hqm : q < m.length := by omega
          obtain ⟨ak2, ck2, sk, _, hck2⟩ := HAT.out k hkm
          obtain ⟨bk2, ok2, eak, hbk2, hck3⟩ := hck2 (by omega)
          subst eak
          obtain ⟨aq, cq, sq, _, hcq⟩ := HAT.out q hqm
          have hlq := apAtS_len (HN.out q hqk)
          obtain ⟨bq, oq, eaq, hbq, hcq2⟩ := hcq (by omega)
          subst eaq
          have tq := hck3 q (by omega)
          have uq := hcq2 k (by omega)
          clear hck2 hck3 hcq hcq2
          rw [← bat HB2.out b _ hbw] at sk sq
          rw [← bat HB2.out bk2 _ (by omega)] at tq
          rw [← bat HB2.out bq _ (by omega)] at uq
          have j0 : (0 : Int) ≤ (q : Int) := by omega
          have j1 : (q : Int) < (m.length : Int) := by omega
          have j2 : (q : Int) < ((rowI m k).length : Int) := by omega
          have j3 : (k : Int) < ((rowI m q).length : Int) := by omega
          have j4 : (q : Int) < (k : Int) := by omega
          have HC : Hid (cellS m k q = (inB (gi (rowI m k) q) 0 100 && (gi (rowI m k) q == gi (rowI m q) k))) := rfl
          generalize gi (rowI m k) q = x at *
          generalize gi (rowI m q) k = y at *
          have CI : Hid (∀ W : World, Calls Tryz.prog 150 #[.int .i64 x, .int .i64 0, .int .i64 100] W fun e w' => e = .returned (.bool (inB x 0 100)) ∧ W = w') := fun W => l00In_any _ _ _ _
          go_wp2
          have o1 := overC (w0 := wr) (show b < wr.heap.size by omega)
          have o2 := overC (w0 := wr) (show bk2 < wr.heap.size by omega)
          have o3 := overC (w0 := wr) (show bq < wr.heap.size by omega)
          by_cases e0 : inB x 0 100 = true
          case neg =>
            replace e0 : inB x 0 100 = false := Bool.eq_false_iff.2 e0
            rw [e0] at CI
            have HQ : Hid (apS m n = false) := HY.out (allR_false hqk (by rw [HC.out, e0]; rfl))
            refine wp_region_over wr.heap.size wr (Below.refl _ _) (by kernel_rfl) (by kernel_rfl) ?_
            repeat (go_big_quiet_step ((go_at_call 150; exact over_same (CI.out _))))
            refine wpQuiet_nil ?_
            rintro _ ⟨X, rfl⟩
            have hX := over_below wr.heap.size wr X
            clear o1 o2 o3
            generalize over wr.heap.size wr X = w3 at *
            have BG := Lib.hid (HB2.out.trans (hX.mono (by omega)))
            clear hX
            go_wp2
            go_ret
            exact ⟨by rw [HQ.out]; rfl, BG.out⟩
          rw [e0] at CI
          by_cases e1 : (x == y) = true
          case neg =>
            replace e1 : (x == y) = false := Bool.eq_false_iff.2 e1
            have en : (x != y) = true := by rw [bne, e1]; rfl
            have HQ : Hid (apS m n = false) := HY.out (allR_false hqk (by rw [HC.out, e1]; simp))
            refine wp_region_over wr.heap.size wr (Below.refl _ _) (by kernel_rfl) (by kernel_rfl) ?_
            repeat (go_big_quiet_step ((go_at_call 150; exact over_same (CI.out _))))
            refine wpQuiet_nil ?_
            rintro _ ⟨X, rfl⟩
            have hX := over_below wr.heap.size wr X
            clear o1 o2 o3
            generalize over wr.heap.size wr X = w3 at *
            have BG := Lib.hid (HB2.out.trans (hX.mono (by omega)))
            clear hX
            go_wp2
            go_ret
            exact ⟨by rw [HQ.out]; rfl, BG.out⟩
          have en : (x != y) = false := by rw [bne, e1]; rfl
          have HQ : Hid (cellS m k q = true) := by show _ = _; rw [HC.out, e0, e1]; rfl
          refine wp_region_over wr.heap.size wr (Below.refl _ _) (by kernel_rfl) (by kernel_rfl) ?_
          repeat (go_big_quiet_step ((go_at_call 150; exact over_same (CI.out _))))
          refine wpQuiet_nil ?_
          rintro _ ⟨X, rfl⟩
          have hX := over_below wr.heap.size wr X
          clear o1 o2 o3
          generalize over wr.heap.size wr X = w3 at *
          have BG := Lib.hid (HB2.out.trans (hX.mono (by omega)))
          clear hX
          go_wp2
          go_roundw
          case rel => exact ⟨q + 1, by omega, by go_num, upTo_succ HN2.out HQ.out, BG.out⟩
          case measure => simp [intOf]; omega
        · obtain rfl : q = k := by omega
          have HG : Hid (apAtS m n q = true) := HX.out (allR_true HN2.out)
          go_wp2
          go_roundw
          case rel => exact ⟨q + 1, by omega, by go_num, upTo_succ HN.out HG.out, HB2.out⟩
          case measure => simp [intOf]; omega
    · obtain rfl : k = n := by omega
      have HQ : Hid (apS m k = true) := by show _ = _; rw [HE.out]; exact allR_true HN.out
      go_wp2
      go_ret
      exact ⟨by rw [HQ.out]; rfl, HB.out⟩
end Go.Proofs.YtlfkdhakibagaaaGreat
