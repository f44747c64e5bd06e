/- Contracts: ValidProblem of the program and of the reference. Conditions: bounded lengths. -/
import Derived.Test.YtpnllibboeeaaaaProb2
import Derived.Test.YtpnllibboeeaaaaTypes
namespace Go.Proofs.Ytpnllibboeeaaaa
open Go.RowKit
set_option linter.unusedVariables false

def row (m : List (List Int)) (i : Nat) : List Int := m.getD i []
def ap (m : List (List Int)) (i k : Nat) : Int := gi (row m i) k
theorem row_eq {m : List (List Int)} {i : Nat} (h : i < m.length) : m[i] = row m i := by simp [row, h]
/-- row i of the constraints is as it must be -/
structure RowOk (m : List (List Int)) (n i : Nat) : Prop where
  len : (row m i).length = n
  rng : ∀ k, k < n → inB (ap m i k) 0 100 = true
  diag : ap m i i = 0
  sym : ∀ k, k < i → ap m i k = ap m k i
structure ValidP (p : DProblem) : Prop where
  n1 : 1 ≤ p.domains.length
  n2 : p.domains.length ≤ 24
  dom : ∀ i, i < p.domains.length → domB (row p.domains i) = true
  len : p.apart.length = p.domains.length
  rows : ∀ i, i < p.domains.length → RowOk p.apart p.domains.length i
noncomputable def vP (p : DProblem) : Bool := @decide (ValidP p) (Classical.propDecidable _)
theorem vP_true {p : DProblem} (h : ValidP p) : vP p = true := by unfold vP; exact @decide_eq_true _ (Classical.propDecidable _) h
theorem vP_false {p : DProblem} (h : ¬ ValidP p) : vP p = false := by unfold vP; exact @decide_eq_false _ (Classical.propDecidable _) h
theorem vP_iff {p : DProblem} : vP p = true ↔ ValidP p := by
  refine ⟨fun h => ?_, vP_true⟩
  by_cases c : ValidP p
  · exact c
  · rw [vP_false c] at h; cases h
theorem doms_iff (l : List (List Int)) : domsB l = true ↔ 1 ≤ l.length ∧ l.length ≤ 24 ∧ ∀ i, i < l.length → domB (row l i) = true := by
  unfold domsB
  rw [Bool.and_eq_true, Bool.and_eq_true, decide_eq_true_iff, decide_eq_true_iff, List.all_eq_true]
  refine and_congr Iff.rfl (and_congr Iff.rfl ⟨fun h i hi => ?_, fun h x hx => ?_⟩)
  · have := h l[i] (List.getElem_mem hi); rwa [row_eq] at this
  · obtain ⟨i, hi, rfl⟩ := List.getElem_of_mem hx
    have := h i hi; rwa [← row_eq hi] at this
theorem sumLen_row_le (m : List (List Int)) (i : Nat) : (row m i).length ≤ sumLen m := by
  by_cases h : i < m.length
  · rw [← row_eq h]; exact sumLen_get_le m i h
  · simp [row, h]

/-- the cells of row i, read -/
theorem Rd.rowAt {B : Nat} {w : World} {m : List (List Int)} {v : Value} (h : Rd B w (intssT m) v) :
    ∃ a c, v = .slice a m.length c ∧ m.length ≤ c ∧ c ≤ maxLen ∧ (0 < m.length → ∃ b off, a = some ⟨b, off, none⟩ ∧ b < B ∧ ∀ i, i < m.length →
      ∃ a' c', w.cell? ⟨b, off + i, none⟩ = some (.slice a' (row m i).length c') ∧ (row m i).length ≤ c' ∧ c' ≤ maxLen ∧ Rd B w (intsT (row m i)) (.slice a' (row m i).length c') ∧
        ∀ k, k < (row m i).length → ∃ b' off', a' = some ⟨b', off', none⟩ ∧ b' < B ∧ w.cell? ⟨b', off' + k, none⟩ = some (.int .i64 (ap m i k))) := by
  obtain ⟨a, c, hv, h1, h2, h3⟩ := h.intss
  refine ⟨a, c, hv, h1, h2, fun hn => ?_⟩
  obtain ⟨b, off, ha, hb, hat⟩ := h3 hn
  refine ⟨b, off, ha, hb, fun i hi => ?_⟩
  obtain ⟨u, hu, hr⟩ := hat i hi
  rw [row_eq hi] at hr
  obtain ⟨a', c', rfl, g1, g2, g3⟩ := hr.ints
  refine ⟨a', c', hu, g1, g2, hr, fun k hk => ?_⟩
  obtain ⟨b', off', ha', hb', hat'⟩ := g3 (by omega)
  exact ⟨b', off', ha', hb', by rw [hat' k hk, gi_eq hk]; rfl⟩

set_option maxHeartbeats 2000000 in
theorem iValidProblem_any (p : DProblem) (d a : Value) (B : Nat) (w : World) (hd : Rd B w (intssT p.domains) d) (ha : Rd B w (intssT p.apart) a) (hB : B ≤ w.heap.size) (hs : siz (intssT p.domains) ≤ 1099511627776) (hs2 : siz (intssT p.apart) ≤ 1099511627776) :
    Calls Try.prog 16 #[.agg #[d, a]] w fun e w' => e = .returned (.bool (vP p)) ∧ Below w.heap.size w w' := by
  rw [siz_intss] at hs hs2
  have b0 : Below w.heap.size w (w.alloc (.cells #[d, a] 26)) := (Below.refl _ _).alloc (Nat.le_refl _) _
  have HD := Lib.hid (domainsOk_any p.domains d B _ (hd.below (b0.mono hB)) (by simp; omega) (by omega) (by omega))
  obtain ⟨a1, c1, rfl, _, _, _⟩ := hd.intss
  obtain ⟨a2, c2, rfl, _, _, hcells⟩ := ha.rowAt
  have B0 := Lib.hid b0
  clear hd ha b0
  by_cases g1 : domsB p.domains = true
  · by_cases g2 : p.apart.length = p.domains.length
    · have G1 := Lib.hid g1
      have G2 := Lib.hid g2
      have g2' : ((p.apart.length : Int) != p.domains.length) = false := by rw [g2]; simp
      clear g1 g2
      go_enter Try.func16, Try.ntmps16
      go_wp2_with fail
      refine (HD.out).mono ?_
      rintro e w1 ⟨rfl, hb1⟩
      rw [G1.out]
      obtain ⟨q1, q2, q3⟩ := bcellAt hb1 (b := w.heap.size) (by simp)
      have B1 := Lib.hid (B0.out.trans (hb1.mono (by simp)))
      clear hb1
      have x0 : w1.cell? ⟨w.heap.size, 0, none⟩ = some (.slice a1 p.domains.length c1) := by rw [q1]; simp [go_sem]
      have x1 : w1.cell? ⟨w.heap.size, 1, none⟩ = some (.slice a2 p.apart.length c2) := by rw [q1]; simp [go_sem]
      have Q1 := Lib.hid q1
      clear q1 q2
      have hnn : (p.apart.length : Int) ≤ 24 := by have := (doms_iff _).1 G1.out; have := G2.out; omega
      go_wp2
      clear g2' x0 x1
      go_loopw [22] (fun i wr => ∃ (k : Nat), k ≤ p.apart.length ∧ i = .int .i64 k ∧ (∀ j, j < k → RowOk p.apart p.domains.length j) ∧ Below w1.heap.size w1 wr) (fun i wr => p.apart.length - (intOf i).toNat)
      case atStart => exact ⟨0, Nat.zero_le _, rfl, fun j hj => by omega, Below.refl _ _⟩
      case round =>
        obtain ⟨i, hi, rfl, hrows, hb⟩ := hrel
        have HR := Lib.hid hrows
        clear hrows
        have x0 : wr.cell? ⟨w.heap.size, 0, none⟩ = some (.slice a1 p.domains.length c1) := by rw [hb.cell (p := ⟨w.heap.size, 0, none⟩) q3, Q1.out]; simp [go_sem]
        have x1 : wr.cell? ⟨w.heap.size, 1, none⟩ = some (.slice a2 p.apart.length c2) := by rw [hb.cell (p := ⟨w.heap.size, 1, none⟩) q3, Q1.out]; simp [go_sem]
        have HB := Lib.hid hb
        have HBW := Lib.hid (B1.out.trans (hb.mono B1.out.size))
        by_cases hlt : i < p.apart.length
        · obtain ⟨b, off, rfl, hbl, hat⟩ := hcells (by omega)
          have HAT := Lib.hid hat
          obtain ⟨a', c', s0, g3, g4, hrd, hcol⟩ := hat i hlt
          have s0 : wr.cell? ⟨b, off + i, none⟩ = some (.slice a' (row p.apart i).length c') := by rw [HBW.out.cell (p := ⟨b, _, none⟩) (show b < w.heap.size by omega)]; exact s0
          have HCOL := Lib.hid hcol
          have HAL := Lib.hid (allWithin_any (row p.apart i) 0 100 _ B wr (hrd.below (HBW.out.mono hB)) (by have := HBW.out.size; omega) (by have := sumLen_row_le p.apart i; omega))
          have hsr := sumLen_row_le p.apart i
          clear hcells hat hb hrd hcol
          have hbad : ¬ RowOk p.apart p.domains.length i → vP p = false := fun hno => vP_false (fun hv => hno (hv.rows i (by rw [← hv.len]; exact hlt)))
          have HBAD := Lib.hid hbad
          clear hbad
          by_cases k1 : (row p.apart i).length = p.domains.length
          · have K1 := Lib.hid k1
            have k1' : (((row p.apart i).length : Int) != p.domains.length) = false := by rw [k1]; simp
            clear k1
            go_wp2_with fail
            refine (HAL.out).mono ?_
            rintro e w2 ⟨rfl, hb2⟩
            have HB2 := Lib.hid (HB.out.trans (hb2.mono HB.out.size))
            have z2 := hb2.size
            have z1 := HB.out.size
            clear hb2
            by_cases k2 : ((row p.apart i).all fun n => inB n 0 100) = true
            · rw [k2]
              have K2 := Lib.hid k2
              clear k2
              obtain ⟨b', off', rfl, hb', hcell⟩ := HCOL.out i (by have := K1.out; have := G2.out; omega)
              have s1 : w2.cell? ⟨b', off' + i, none⟩ = some (.int .i64 (ap p.apart i i)) := by
                rw [(B1.out.trans (HB2.out.mono B1.out.size)).cell (p := ⟨b', _, none⟩) (show b' < w.heap.size by omega)]; exact hcell
              have i1 : (i : Int) < ((row p.apart i).length : Int) := by have := K1.out; have := G2.out; omega
              by_cases k3 : ap p.apart i i = 0
              · have k3' : ((ap p.apart i i : Int) != 0) = false := by rw [k3]; simp
                have K3 := Lib.hid k3
                clear k3
                go_wp2
                have B2 := Lib.hid (B1.out.trans (HB2.out.mono B1.out.size))
                clear s0 s1 x0 x1 k3' k1' i1
                go_loopw [46] (fun kk wi => ∃ (k : Nat), k ≤ i ∧ kk = .int .i64 k ∧ (∀ q, q < k → ap p.apart i q = ap p.apart q i) ∧ Below w2.heap.size w2 wi) (fun kk wi => i - (intOf kk).toNat)
                case atStart => exact ⟨0, Nat.zero_le _, rfl, fun q hq => by omega, Below.refl _ _⟩
                case round =>
                  obtain ⟨k, hk, rfl, hsym, hbi⟩ := hrel
                  have HSY := Lib.hid hsym
                  have HBI := Lib.hid hbi
                  clear hsym hbi
                  have BI := Lib.hid (B2.out.trans (HBI.out.mono B2.out.size))
                  have hq3 : w.heap.size < w2.heap.size := by omega
                  have x1 : wr.cell? ⟨w.heap.size, 1, none⟩ = some (.slice (some ⟨b, off, none⟩) p.apart.length c2) := by
                    rw [HBI.out.cell (p := ⟨w.heap.size, 1, none⟩) hq3, HB2.out.cell (p := ⟨w.heap.size, 1, none⟩) q3, Q1.out]; simp [go_sem]
                  by_cases hki : k < i
                  · obtain ⟨b1, off1, e1, hb1, hcell1⟩ := HCOL.out k (by have := K1.out; have := G2.out; omega)
                    injection e1 with e1
                    injection e1 with e1 e2
                    subst e1 e2
                    have hlk : (row p.apart k).length = p.domains.length := (HR.out k hki).len
                    obtain ⟨a3, c3, s3, _, _, _, hcol3⟩ := HAT.out k (by omega)
                    obtain ⟨b3, off3, rfl, hb3, hcell3⟩ := hcol3 i (by have := G2.out; omega)
                    have t1 : wr.cell? ⟨b', off' + k, none⟩ = some (.int .i64 (ap p.apart i k)) := by rw [BI.out.cell (p := ⟨b', _, none⟩) (show b' < w.heap.size by omega)]; exact hcell1
                    have t2 : wr.cell? ⟨b, off + k, none⟩ = some (.slice (some ⟨b3, off3, none⟩) (row p.apart k).length c3) := by rw [BI.out.cell (p := ⟨b, _, none⟩) (show b < w.heap.size by omega)]; exact s3
                    have t3 : wr.cell? ⟨b3, off3 + i, none⟩ = some (.int .i64 (ap p.apart k i)) := by rw [BI.out.cell (p := ⟨b3, _, none⟩) (show b3 < w.heap.size by omega)]; exact hcell3
                    have j1 : (k : Int) < ((row p.apart i).length : Int) := by have := K1.out; have := G2.out; omega
                    have j2 : (k : Int) < (p.apart.length : Int) := by omega
                    have j3 : (i : Int) < ((row p.apart k).length : Int) := by have := G2.out; omega
                    have j4 : (0 : Int) ≤ (k : Int) := by omega
                    have j5 : (0 : Int) ≤ (i : Int) := by omega
                    clear hlk s3 hcol3 hcell1 hcell3
                    by_cases hc : ap p.apart i k = ap p.apart k i
                    · have hc' : ((ap p.apart i k : Int) != ap p.apart k i) = false := by rw [hc]; simp
                      have HC := Lib.hid hc
                      clear hc
                      go_wp2
                      go_quiet (fail)
                      go_wp2
                      go_roundw
                      case rel =>
                        refine ⟨k + 1, by omega, by go_num, fun q hq => ?_, below_drewN HBI.out _⟩
                        by_cases e : q < k
                        · exact HSY.out q e
                        · obtain rfl : q = k := by omega
                          exact HC.out
                      case measure => simp [intOf]; omega
                    · have hc' : ((ap p.apart i k : Int) != ap p.apart k i) = true := by simpa using hc
                      have HC := Lib.hid hc
                      clear hc
                      go_wp2
                      go_quiet (fail)
                      go_wp2
                      go_ret
                      refine ⟨?_, below_drewN BI.out _⟩
                      rw [HBAD.out (fun h => HC.out (h.sym k hki))]; rfl
                  · obtain rfl : k = i := by omega
                    go_wp2
                    go_roundw
                    case rel =>
                      refine ⟨k + 1, by omega, by go_num, fun j hj => ?_, HB2.out.trans (HBI.out.mono (by omega))⟩
                      by_cases e : j < k
                      · exact HR.out j e
                      · obtain rfl : j = k := by omega
                        exact ⟨K1.out, fun q hq => (all_iff _ _ _).1 K2.out q (by rw [K1.out]; exact hq), K3.out, HSY.out⟩
                    case measure => simp [intOf]; omega
              · have k3' : ((ap p.apart i i : Int) != 0) = true := by simpa using k3
                have K3 := Lib.hid k3
                clear k3
                go_wp2
                go_ret
                refine ⟨?_, B1.out.trans (HB2.out.mono B1.out.size)⟩
                rw [HBAD.out (fun h => K3.out h.diag)]; rfl
            · have k2' : ((row p.apart i).all fun n => inB n 0 100) = false := by simpa using k2
              rw [k2']
              go_wp2
              go_ret
              refine ⟨?_, B1.out.trans (HB2.out.mono B1.out.size)⟩
              rw [HBAD.out (fun h => k2 ((all_iff _ _ _).2 (fun k hk => h.rng k (by rw [← h.len]; exact hk))))]; rfl
          · have k1' : (((row p.apart i).length : Int) != p.domains.length) = true := by simp; omega
            have K1 := Lib.hid k1
            clear k1
            go_wp2
            go_ret
            refine ⟨?_, HBW.out⟩
            rw [HBAD.out (fun h => K1.out h.len)]; rfl
        · obtain rfl : i = p.apart.length := by omega
          clear hcells
          go_wp2
          go_ret
          refine ⟨?_, HBW.out⟩
          obtain ⟨h1, h2, h3⟩ := (doms_iff _).1 G1.out
          rw [vP_true ⟨h1, h2, h3, G2.out, fun j hj => HR.out j (by rw [G2.out]; exact hj)⟩]; rfl
    · have g2' : ((p.apart.length : Int) != p.domains.length) = true := by simp; omega
      have G1 := Lib.hid g1
      have e : vP p = false := vP_false (fun h => g2 h.len)
      rw [e]
      clear g1 g2 e hcells
      go_enter Try.func16, Try.ntmps16
      go_wp2_with fail
      refine (HD.out).mono ?_
      rintro e w1 ⟨rfl, hb1⟩
      rw [G1.out]
      obtain ⟨q1, q2, q3⟩ := bcellAt hb1 (b := w.heap.size) (by simp)
      go_wp2
      go_ret
      exact ⟨rfl, B0.out.trans (hb1.mono (by simp))⟩
  · have g1' : domsB p.domains = false := by simpa using g1
    have e : vP p = false := vP_false (fun h => g1 ((doms_iff _).2 ⟨h.n1, h.n2, h.dom⟩))
    rw [e]
    have G1 := Lib.hid g1'
    clear g1 g1' e hcells
    go_enter Try.func16, Try.ntmps16
    go_wp2_with fail
    refine (HD.out).mono ?_
    rintro e w1 ⟨rfl, hb1⟩
    rw [G1.out]
    go_wp2
    go_ret
    exact ⟨rfl, B0.out.trans (hb1.mono (by simp))⟩
end Go.Proofs.Ytpnllibboeeaaaa
