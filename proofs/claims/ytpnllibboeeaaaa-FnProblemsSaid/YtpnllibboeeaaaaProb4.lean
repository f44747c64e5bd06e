/- Contract: l17Ok of the reference. Conditions: bounded lengths. -/
import Derived.Test.YtpnllibboeeaaaaProb3
namespace Go.Proofs.Ytpnllibboeeaaaa
open Go.RowKit
set_option linter.unusedVariables false

set_option maxRecDepth 100000 in
set_option maxHeartbeats 4000000 in
theorem l17Ok_any (p : DProblem) (d a : Value) (B bp : Nat) (w : World) (hd : Rd B w (intssT p.domains) d) (ha : Rd B w (intssT p.apart) a) (hB : B ≤ w.heap.size) (hs : siz (intssT p.domains) ≤ 1099511627776) (hs2 : siz (intssT p.apart) ≤ 1099511627776)
    (hp0 : w.cell? ⟨bp, 0, none⟩ = some d) (hp1 : w.cell? ⟨bp, 1, none⟩ = some a) (hbp : bp < w.heap.size) :
    Calls Try.prog 22 #[.pointer (some ⟨bp, 0, none⟩)] w fun e w' => e = .returned (.bool (vP p)) ∧ Below w.heap.size w w' := by
  rw [siz_intss] at hs hs2
  obtain ⟨a1, c1, rfl, _, _, hcellsD⟩ := hd.rowAt
  obtain ⟨a2, c2, rfl, _, _, hcells⟩ := ha.rowAt
  clear hd ha
  have hnb : (p.domains.length : Int) ≤ 1099511627776 := by omega
  by_cases g1 : 1 ≤ p.domains.length
  · have g1' : decide (p.domains.length < 1) = false := decide_eq_false (by omega)
    by_cases g2 : p.domains.length ≤ 24
    · have g2' : decide (24 < p.domains.length) = false := decide_eq_false (by omega)
      by_cases g3 : p.apart.length = p.domains.length
      · have g3' : ((p.apart.length : Int) != p.domains.length) = false := by rw [g3]; simp
        have G3 := Lib.hid g3
        clear g3
        have P0 := Lib.hid hp0
        have P1 := Lib.hid hp1
        go_enter Try.func22, Try.ntmps22
        go_wp2
        clear g1' g2' g3' hp0 hp1
        go_loopw [4] (fun i wr => ∃ (k : Nat), k ≤ p.domains.length ∧ i = .int .i64 k ∧ (∀ j, j < k → domB (row p.domains j) = true ∧ RowOk p.apart p.domains.length j) ∧ Below w.heap.size w wr) (fun i wr => p.domains.length - (intOf i).toNat)
        case atStart => exact ⟨0, Nat.zero_le _, rfl, fun j hj => by omega, Below.refl _ _⟩
        case round =>
          obtain ⟨i, hi, rfl, hrows, hb⟩ := hrel
          have HR := Lib.hid hrows
          clear hrows
          have x0 : wr.cell? ⟨bp, 0, none⟩ = some (.slice a1 p.domains.length c1) := by rw [hb.cell (p := ⟨bp, 0, none⟩) hbp]; exact P0.out
          have x1 : wr.cell? ⟨bp, 1, none⟩ = some (.slice a2 p.apart.length c2) := by rw [hb.cell (p := ⟨bp, 1, none⟩) hbp]; exact P1.out
          have HB := Lib.hid hb
          by_cases hlt : i < p.domains.length
          · obtain ⟨bd, offd, rfl, hbld, hatd⟩ := hcellsD (by omega)
            obtain ⟨b, off, rfl, hbl, hat⟩ := hcells (by have := G3.out; omega)
            have HAT := Lib.hid hat
            obtain ⟨ad, cd, sd, _, _, hrdd, _⟩ := hatd i hlt
            obtain ⟨a', c', s0, g4, g5, hrd, hcol⟩ := hat i (by have := G3.out; omega)
            have sd : wr.cell? ⟨bd, offd + i, none⟩ = some (.slice ad (row p.domains i).length cd) := by rw [HB.out.cell (p := ⟨bd, _, none⟩) (show bd < w.heap.size by omega)]; exact sd
            have S0 := Lib.hid s0
            have HCOL := Lib.hid hcol
            have HDO := Lib.hid (l17Domain_any (row p.domains i) _ B wr (hrdd.below (HB.out.mono hB)) (by have := HB.out.size; omega) (by have := sumLen_row_le p.domains i; omega))
            have hsr := sumLen_row_le p.apart i
            have hbad : ¬ (domB (row p.domains i) = true ∧ RowOk p.apart p.domains.length i) → vP p = false := fun hno => vP_false (fun hv => hno ⟨hv.dom i hlt, hv.rows i hlt⟩)
            have HBAD := Lib.hid hbad
            have z1 := HB.out.size
            have j2 : (i : Int) < (p.apart.length : Int) := by have := G3.out; omega
            have j3 : (0 : Int) ≤ (i : Int) := by omega
            clear hcells hcellsD hat hatd hb hrd hcol hbad hrdd s0
            go_wp2_with fail
            refine (HDO.out).mono ?_
            rintro e w2 ⟨rfl, hb2⟩
            have HB2 := Lib.hid (HB.out.trans (hb2.mono HB.out.size))
            have z2 := hb2.size
            clear hb2
            have x0 : w2.cell? ⟨bp, 0, none⟩ = some (.slice (some ⟨bd, offd, none⟩) p.domains.length c1) := by rw [HB2.out.cell (p := ⟨bp, 0, none⟩) hbp]; exact P0.out
            have x1 : w2.cell? ⟨bp, 1, none⟩ = some (.slice (some ⟨b, off, none⟩) p.apart.length c2) := by rw [HB2.out.cell (p := ⟨bp, 1, none⟩) hbp]; exact P1.out
            have s0 : w2.cell? ⟨b, off + i, none⟩ = some (.slice a' (row p.apart i).length c') := by rw [HB2.out.cell (p := ⟨b, _, none⟩) (show b < w.heap.size by omega)]; exact S0.out
            by_cases k0 : domB (row p.domains i) = true
            · rw [k0]
              have K0 := Lib.hid k0
              clear k0
              by_cases k1 : (row p.apart i).length = p.domains.length
              · have K1 := Lib.hid k1
                have k1' : (((row p.apart i).length : Int) != p.domains.length) = false := by rw [k1]; simp
                clear k1
                obtain ⟨b', off', rfl, hb', hcell⟩ := HCOL.out i (by have := K1.out; omega)
                have s1 : w2.cell? ⟨b', off' + i, none⟩ = some (.int .i64 (ap p.apart i i)) := by
                  rw [HB2.out.cell (p := ⟨b', _, none⟩) (show b' < w.heap.size by omega)]; exact hcell
                have i1 : (i : Int) < ((row p.apart i).length : Int) := by have := K1.out; omega
                by_cases k3 : ap p.apart i i = 0
                · have k3' : ((ap p.apart i i : Int) != 0) = false := by rw [k3]; simp
                  have K3 := Lib.hid k3
                  clear k3
                  go_wp2
                  clear s0 s1 x0 x1 k3' k1' i1
                  go_loopw [5] (fun kk wi => ∃ (k : Nat), k ≤ p.domains.length ∧ kk = .int .i64 k ∧ (∀ q, q < k → inB (ap p.apart i q) 0 100 = true) ∧ (∀ q, q < k → q < i → ap p.apart i q = ap p.apart q i) ∧ Below w2.heap.size w2 wi) (fun kk wi => p.domains.length - (intOf kk).toNat)
                  case atStart => exact ⟨0, Nat.zero_le _, rfl, fun q hq => by omega, fun q hq => by omega, Below.refl _ _⟩
                  case round =>
                    obtain ⟨k, hk, rfl, hrng, hsym, hbi⟩ := hrel
                    have HRG := Lib.hid hrng
                    have HSY := Lib.hid hsym
                    have HBI := Lib.hid hbi
                    clear hsym hbi hrng
                    have BI := Lib.hid (HB2.out.trans (HBI.out.mono HB2.out.size))
                    have x1 : wr.cell? ⟨bp, 1, none⟩ = some (.slice (some ⟨b, off, none⟩) p.apart.length c2) := by
                      rw [BI.out.cell (p := ⟨bp, 1, none⟩) hbp]; exact P1.out
                    have s0 : wr.cell? ⟨b, off + i, none⟩ = some (.slice (some ⟨b', off', none⟩) (row p.apart i).length c') := by rw [BI.out.cell (p := ⟨b, _, none⟩) (show b < w.heap.size by omega)]; exact S0.out
                    by_cases hkn : k < p.domains.length
                    · obtain ⟨b1, off1, e1, hb1, hcell1⟩ := HCOL.out k (by have := K1.out; omega)
                      injection e1 with e1
                      injection e1 with e1 e2
                      subst e1 e2
                      have t1 : wr.cell? ⟨b', off' + k, none⟩ = some (.int .i64 (ap p.apart i k)) := by rw [BI.out.cell (p := ⟨b', _, none⟩) (show b' < w.heap.size by omega)]; exact hcell1
                      have j1 : (k : Int) < ((row p.apart i).length : Int) := by have := K1.out; omega
                      have j4 : (0 : Int) ≤ (k : Int) := by omega
                      have j6 : (k : Int) < (p.apart.length : Int) := by have := G3.out; omega
                      clear hcell1
                      by_cases hc1 : inB (ap p.apart i k) 0 100 = true
                      · have HC1 := Lib.hid hc1
                        by_cases hki : k < i
                        · have hki' : decide (k < i) = true := decide_eq_true hki
                          have hlk : (row p.apart k).length = p.domains.length := (HR.out k hki).2.len
                          obtain ⟨a3, c3, s3, _, _, _, hcol3⟩ := HAT.out k (by have := G3.out; omega)
                          obtain ⟨b3, off3, rfl, hb3, hcell3⟩ := hcol3 i (by omega)
                          have t2 : wr.cell? ⟨b, off + k, none⟩ = some (.slice (some ⟨b3, off3, none⟩) (row p.apart k).length c3) := by rw [BI.out.cell (p := ⟨b, _, none⟩) (show b < w.heap.size by omega)]; exact s3
                          have t3 : wr.cell? ⟨b3, off3 + i, none⟩ = some (.int .i64 (ap p.apart k i)) := by rw [BI.out.cell (p := ⟨b3, _, none⟩) (show b3 < w.heap.size by omega)]; exact hcell3
                          have j5 : (i : Int) < ((row p.apart k).length : Int) := by omega
                          clear hlk s3 hcol3 hcell3
                          by_cases hc : ap p.apart k i = ap p.apart i k
                          · have hc' : ((ap p.apart k i : Int) != ap p.apart i k) = false := by rw [hc]; simp
                            have HC := Lib.hid hc
                            clear hc
                            go_wp2
                            go_quiet ((go_at_call 38; exact quiet_left (l00In_any _ _ _ _)))
                            go_wp2
                            go_roundw
                            case rel =>
                              refine ⟨k + 1, by omega, by go_num, fun q hq => ?_, fun q hq hqi => ?_, below_drewN HBI.out _⟩
                              · by_cases e : q < k
                                · exact HRG.out q e
                                · obtain rfl : q = k := by omega
                                  exact HC1.out
                              · by_cases e : q < k
                                · exact HSY.out q e hqi
                                · obtain rfl : q = k := by omega
                                  exact HC.out.symm
                            case measure => simp [intOf]; omega
                          · have hc' : ((ap p.apart k i : Int) != ap p.apart i k) = true := by simpa using hc
                            have HC := Lib.hid hc
                            clear hc
                            go_wp2
                            go_quiet ((go_at_call 38; exact quiet_left (l00In_any _ _ _ _)))
                            go_wp2
                            go_ret
                            refine ⟨?_, below_drewN BI.out _⟩
                            rw [HBAD.out (fun h => HC.out (h.2.sym k hki).symm)]; rfl
                        · have hki' : decide (k < i) = false := decide_eq_false hki
                          go_wp2
                          go_quiet ((go_at_call 38; exact quiet_left (l00In_any _ _ _ _)))
                          go_wp2
                          go_roundw
                          case rel =>
                            refine ⟨k + 1, by omega, by go_num, fun q hq => ?_, fun q hq hqi => HSY.out q (by omega) hqi, below_drewN HBI.out _⟩
                            by_cases e : q < k
                            · exact HRG.out q e
                            · obtain rfl : q = k := by omega
                              exact HC1.out
                          case measure => simp [intOf]; omega
                      · have hc1' : inB (ap p.apart i k) 0 100 = false := by simpa using hc1
                        clear hc1
                        go_wp2
                        go_quiet ((go_at_call 38; exact quiet_left (l00In_any _ _ _ _)))
                        go_wp2
                        go_ret
                        refine ⟨?_, below_drewN BI.out _⟩
                        rw [HBAD.out (fun h => by have := h.2.rng k hkn; rw [hc1'] at this; cases this)]; rfl
                    · obtain rfl : k = p.domains.length := by omega
                      go_wp2
                      go_roundw
                      case rel =>
                        refine ⟨i + 1, by omega, by go_num, fun j hj => ?_, BI.out⟩
                        by_cases e : j < i
                        · exact HR.out j e
                        · obtain rfl : j = i := by omega
                          exact ⟨K0.out, K1.out, HRG.out, K3.out, fun q hq => HSY.out q (by omega) hq⟩
                      case measure => simp [intOf]; omega
                · have k3' : ((ap p.apart i i : Int) != 0) = true := by simpa using k3
                  have K3 := Lib.hid k3
                  clear k3
                  go_wp2
                  go_ret
                  refine ⟨?_, HB2.out⟩
                  rw [HBAD.out (fun h => K3.out h.2.diag)]; rfl
              · have k1' : (((row p.apart i).length : Int) != p.domains.length) = true := by simp; omega
                have K1 := Lib.hid k1
                clear k1
                go_wp2
                go_ret
                refine ⟨?_, HB2.out⟩
                rw [HBAD.out (fun h => K1.out h.2.len)]; rfl
            · have k0' : domB (row p.domains i) = false := by simpa using k0
              rw [k0']
              go_wp2
              go_ret
              refine ⟨?_, HB2.out⟩
              rw [HBAD.out (fun h => k0 h.1)]; rfl
          · obtain rfl : i = p.domains.length := by omega
            clear hcells hcellsD
            go_wp2
            go_ret
            refine ⟨?_, HB.out⟩
            rw [vP_true ⟨g1, g2, fun j hj => (HR.out j hj).1, G3.out, fun j hj => (HR.out j hj).2⟩]; rfl
      · have g3' : ((p.apart.length : Int) != p.domains.length) = true := by simp; omega
        have e : vP p = false := vP_false (fun h => g3 h.len)
        rw [e]
        clear hcells hcellsD e g3
        go_enter Try.func22, Try.ntmps22
        go_wp2
        go_ret
        exact ⟨rfl, Below.refl _ _⟩
    · have g2' : (24 : Int) < (p.domains.length : Int) := by omega
      have e : vP p = false := vP_false (fun h => g2 h.n2)
      rw [e]
      clear hcells hcellsD e g2
      go_enter Try.func22, Try.ntmps22
      go_wp2
      go_ret
      exact ⟨rfl, Below.refl _ _⟩
  · have g1' : decide (p.domains.length < 1) = true := decide_eq_true (by omega)
    have e : vP p = false := vP_false (fun h => g1 h.n1)
    rw [e]
    clear hcells hcellsD e
    go_enter Try.func22, Try.ntmps22
    go_wp2
    go_ret
    exact ⟨rfl, Below.refl _ _⟩
end Go.Proofs.Ytpnllibboeeaaaa
