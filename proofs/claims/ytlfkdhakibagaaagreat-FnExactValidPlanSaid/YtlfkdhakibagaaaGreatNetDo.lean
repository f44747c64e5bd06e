/- Contracts: elements with a name, for the reference, the network lying inside a larger block. Conditions: bounded lengths. -/
import Derived.Test.YtlfkdhakibagaaaGreatNetD
namespace Go.Proofs.YtlfkdhakibagaaaGreat
open Go.RowKit
set_option linter.unusedVariables false
set_option linter.unusedSimpArgs false

set_option maxHeartbeats 1000000 in
theorem l14FindSite_off (l : List DSite) (nm : ByteArray) (v : Value) (bp op B : Nat) (w : World) (h : Rd B w (DSite.sT l) v) (hB : B ≤ w.heap.size) (hp : w.cell? ⟨bp, op, none⟩ = some v) (hn : l.length ≤ 1099511627776) :
    Calls Tryz.prog 190 #[.pointer (some ⟨bp, op, none⟩), .string nm] w fun e w' => e = .returned (.int .i64 (idxSite l nm)) ∧ w = w' := by
  obtain ⟨a, c, rfl, hnc, hcm, hcells⟩ := DSite.rd h
  clear h
  have hnb : (l.length : Int) ≤ 1099511627776 := by omega
  go_enter Tryz.func190, Tryz.ntmps190
  go_wp2
  go_loop [5] (fun i => ∃ (k : Nat), k ≤ l.length ∧ i = .int .i64 k ∧ (l.take k).any (fun x : DSite => eqS x.name nm) = false) (fun i => l.length - (intOf i).toNat)
  case atStart => exact ⟨0, Nat.zero_le _, rfl, by simp⟩
  case round =>
    obtain ⟨k, hk, rfl, hno⟩ := hrel
    have HN := Lib.hid hno
    clear hno
    by_cases hlt : k < l.length
    · obtain ⟨b, off, rfl, hbl, hat⟩ := hcells (by omega)
      have s0 := (hat k hlt).1
      clear hcells hat
      by_cases hp1 : (l[k].name.toList == nm.toList) = true
      · have HP := Lib.hid hp1
        go_wp2
        go_ret
        exact ⟨by unfold idxSite; rw [firstIdx_at (fun x : DSite => eqS x.name nm) l k hlt HP.out HN.out]; rfl, rfl⟩
      · have hp' : (l[k].name.toList == nm.toList) = false := Bool.eq_false_iff.2 hp1
        have HP := Lib.hid hp'
        clear hp1
        go_wp2
        go_round
        case rel => exact ⟨k + 1, by omega, by go_num, by rw [any_take_succ _ l k hlt, HN.out]; exact HP.out⟩
        case measure => simp [intOf]; omega
    · obtain rfl : k = l.length := by omega
      clear hcells
      go_wp2
      go_ret
      have := HN.out
      rw [List.take_length] at this
      exact ⟨by unfold idxSite; rw [firstIdx_none _ l this]; rfl, rfl⟩
set_option maxHeartbeats 1000000 in
theorem l14Find_off (l : List DSector) (nm : ByteArray) (v : Value) (bp op B : Nat) (w : World) (h : Rd B w (DSector.sT l) v) (hB : B ≤ w.heap.size) (hp : w.cell? ⟨bp, op + 1, none⟩ = some v) (hn : l.length ≤ 1099511627776) :
    Calls Tryz.prog 134 #[.pointer (some ⟨bp, op, none⟩), .string nm] w fun e w' => e = .returned (.int .i64 (idxSector l nm)) ∧ w = w' := by
  obtain ⟨a, c, rfl, hnc, hcm, hcells⟩ := DSector.rd h
  clear h
  have hnb : (l.length : Int) ≤ 1099511627776 := by omega
  go_enter Tryz.func134, Tryz.ntmps134
  go_wp2
  go_loop [5] (fun i => ∃ (k : Nat), k ≤ l.length ∧ i = .int .i64 k ∧ (l.take k).any (fun x : DSector => eqS x.name nm) = false) (fun i => l.length - (intOf i).toNat)
  case atStart => exact ⟨0, Nat.zero_le _, rfl, by simp⟩
  case round =>
    obtain ⟨k, hk, rfl, hno⟩ := hrel
    have HN := Lib.hid hno
    clear hno
    by_cases hlt : k < l.length
    · obtain ⟨b, off, rfl, hbl, hat⟩ := hcells (by omega)
      have s0 := (hat k hlt).1
      clear hcells hat
      by_cases hp1 : (l[k].name.toList == nm.toList) = true
      · have HP := Lib.hid hp1
        go_wp2
        go_ret
        exact ⟨by unfold idxSector; rw [firstIdx_at (fun x : DSector => eqS x.name nm) l k hlt HP.out HN.out]; rfl, rfl⟩
      · have hp' : (l[k].name.toList == nm.toList) = false := Bool.eq_false_iff.2 hp1
        have HP := Lib.hid hp'
        clear hp1
        go_wp2
        go_round
        case rel => exact ⟨k + 1, by omega, by go_num, by rw [any_take_succ _ l k hlt, HN.out]; exact HP.out⟩
        case measure => simp [intOf]; omega
    · obtain rfl : k = l.length := by omega
      clear hcells
      go_wp2
      go_ret
      have := HN.out
      rw [List.take_length] at this
      exact ⟨by unfold idxSector; rw [firstIdx_none _ l this]; rfl, rfl⟩
set_option maxHeartbeats 1000000 in
theorem l14Antenna_off (l : List DAntenna) (nm : ByteArray) (v : Value) (bp op B : Nat) (w : World) (h : Rd B w (DAntenna.sT l) v) (hB : B ≤ w.heap.size) (hp : w.cell? ⟨bp, op + 2, none⟩ = some v) (hn : l.length ≤ 1099511627776) :
    Calls Tryz.prog 198 #[.pointer (some ⟨bp, op, none⟩), .string nm] w fun e w' => e = .returned (.int .i64 (idxAntenna l nm)) ∧ w = w' := by
  obtain ⟨a, c, rfl, hnc, hcm, hcells⟩ := DAntenna.rd h
  clear h
  have hnb : (l.length : Int) ≤ 1099511627776 := by omega
  go_enter Tryz.func198, Tryz.ntmps198
  go_wp2
  go_loop [5] (fun i => ∃ (k : Nat), k ≤ l.length ∧ i = .int .i64 k ∧ (l.take k).any (fun x : DAntenna => eqS x.name nm) = false) (fun i => l.length - (intOf i).toNat)
  case atStart => exact ⟨0, Nat.zero_le _, rfl, by simp⟩
  case round =>
    obtain ⟨k, hk, rfl, hno⟩ := hrel
    have HN := Lib.hid hno
    clear hno
    by_cases hlt : k < l.length
    · obtain ⟨b, off, rfl, hbl, hat⟩ := hcells (by omega)
      have s0 := (hat k hlt).1
      clear hcells hat
      by_cases hp1 : (l[k].name.toList == nm.toList) = true
      · have HP := Lib.hid hp1
        go_wp2
        go_ret
        exact ⟨by unfold idxAntenna; rw [firstIdx_at (fun x : DAntenna => eqS x.name nm) l k hlt HP.out HN.out]; rfl, rfl⟩
      · have hp' : (l[k].name.toList == nm.toList) = false := Bool.eq_false_iff.2 hp1
        have HP := Lib.hid hp'
        clear hp1
        go_wp2
        go_round
        case rel => exact ⟨k + 1, by omega, by go_num, by rw [any_take_succ _ l k hlt, HN.out]; exact HP.out⟩
        case measure => simp [intOf]; omega
    · obtain rfl : k = l.length := by omega
      clear hcells
      go_wp2
      go_ret
      have := HN.out
      rw [List.take_length] at this
      exact ⟨by unfold idxAntenna; rw [firstIdx_none _ l this]; rfl, rfl⟩
set_option maxHeartbeats 1000000 in
theorem l14Radio_off (l : List DRadio) (nm : ByteArray) (v : Value) (bp op B : Nat) (w : World) (h : Rd B w (DRadio.sT l) v) (hB : B ≤ w.heap.size) (hp : w.cell? ⟨bp, op + 3, none⟩ = some v) (hn : l.length ≤ 1099511627776) :
    Calls Tryz.prog 199 #[.pointer (some ⟨bp, op, none⟩), .string nm] w fun e w' => e = .returned (.int .i64 (idxRadio l nm)) ∧ w = w' := by
  obtain ⟨a, c, rfl, hnc, hcm, hcells⟩ := DRadio.rd h
  clear h
  have hnb : (l.length : Int) ≤ 1099511627776 := by omega
  go_enter Tryz.func199, Tryz.ntmps199
  go_wp2
  go_loop [5] (fun i => ∃ (k : Nat), k ≤ l.length ∧ i = .int .i64 k ∧ (l.take k).any (fun x : DRadio => eqS x.name nm) = false) (fun i => l.length - (intOf i).toNat)
  case atStart => exact ⟨0, Nat.zero_le _, rfl, by simp⟩
  case round =>
    obtain ⟨k, hk, rfl, hno⟩ := hrel
    have HN := Lib.hid hno
    clear hno
    by_cases hlt : k < l.length
    · obtain ⟨b, off, rfl, hbl, hat⟩ := hcells (by omega)
      have s0 := (hat k hlt).1
      clear hcells hat
      by_cases hp1 : (l[k].name.toList == nm.toList) = true
      · have HP := Lib.hid hp1
        go_wp2
        go_ret
        exact ⟨by unfold idxRadio; rw [firstIdx_at (fun x : DRadio => eqS x.name nm) l k hlt HP.out HN.out]; rfl, rfl⟩
      · have hp' : (l[k].name.toList == nm.toList) = false := Bool.eq_false_iff.2 hp1
        have HP := Lib.hid hp'
        clear hp1
        go_wp2
        go_round
        case rel => exact ⟨k + 1, by omega, by go_num, by rw [any_take_succ _ l k hlt, HN.out]; exact HP.out⟩
        case measure => simp [intOf]; omega
    · obtain rfl : k = l.length := by omega
      clear hcells
      go_wp2
      go_ret
      have := HN.out
      rw [List.take_length] at this
      exact ⟨by unfold idxRadio; rw [firstIdx_none _ l this]; rfl, rfl⟩
set_option maxHeartbeats 1000000 in
theorem l14Refers_off (n : DNetwork) (x : DSector) (v0 v2 v3 : Value) (bp op bx ox B : Nat) (w : World) (r0 : Rd B w (DSite.sT n.sites) v0) (r2 : Rd B w (DAntenna.sT n.antennas) v2) (r3 : Rd B w (DRadio.sT n.radios) v3) (hB : B ≤ w.heap.size) (p0 : w.cell? ⟨bp, op, none⟩ = some v0) (p2 : w.cell? ⟨bp, op + 2, none⟩ = some v2) (p3 : w.cell? ⟨bp, op + 3, none⟩ = some v3) (c1 : w.cell? ⟨bx, ox + 1, none⟩ = some (.string x.site)) (c2 : w.cell? ⟨bx, ox + 2, none⟩ = some (.string x.antenna)) (c3 : w.cell? ⟨bx, ox + 3, none⟩ = some (.string x.radio)) (l0 : n.sites.length ≤ 1099511627776) (l2 : n.antennas.length ≤ 1099511627776) (l3 : n.radios.length ≤ 1099511627776) :
    Calls Tryz.prog 154 #[.pointer (some ⟨bp, op, none⟩), .pointer (some ⟨bx, ox, none⟩)] w fun e w' => e = .returned (.bool (refersB n x)) ∧ w = w' := by
  have HS := Lib.hid (l14FindSite_off n.sites x.site v0 bp op B w r0 hB p0 l0)
  have HA := Lib.hid (l14Antenna_off n.antennas x.antenna v2 bp op B w r2 hB p2 l2)
  have HR := Lib.hid (l14Radio_off n.radios x.radio v3 bp op B w r3 hB p3 l3)
  clear r0 r2 r3
  by_cases h0 : decide (0 ≤ idxSite n.sites x.site) = true
  · skip
    by_cases h1 : decide (0 ≤ idxAntenna n.antennas x.antenna) = true
    · skip
      by_cases h2 : decide (0 ≤ idxRadio n.radios x.radio) = true
      · skip
        have HE : Hid (refersB n x = true) := by show _ = _; unfold refersB; simp only [h0, h1, h2, Bool.and_false, Bool.false_and, Bool.and_true, Bool.true_and, Bool.and_self]
        go_enter Tryz.func154, Tryz.ntmps154
        go_wp2_with (first | (go_at_call 190; refine (HS.out).mono ?_; rintro e w1 ⟨rfl, rfl⟩) | (go_at_call 198; refine (HA.out).mono ?_; rintro e w1 ⟨rfl, rfl⟩) | (go_at_call 199; refine (HR.out).mono ?_; rintro e w1 ⟨rfl, rfl⟩))
        go_ret
        exact ⟨by rw [HE.out]; rfl, by rfl⟩
      · replace h2 : decide (0 ≤ idxRadio n.radios x.radio) = false := Bool.eq_false_iff.2 h2
        have HE : Hid (refersB n x = false) := by show _ = _; unfold refersB; simp only [h0, h1, h2, Bool.and_false, Bool.false_and, Bool.and_true, Bool.true_and, Bool.and_self]
        go_enter Tryz.func154, Tryz.ntmps154
        go_wp2_with (first | (go_at_call 190; refine (HS.out).mono ?_; rintro e w1 ⟨rfl, rfl⟩) | (go_at_call 198; refine (HA.out).mono ?_; rintro e w1 ⟨rfl, rfl⟩) | (go_at_call 199; refine (HR.out).mono ?_; rintro e w1 ⟨rfl, rfl⟩))
        go_ret
        exact ⟨by rw [HE.out]; rfl, by rfl⟩
    · replace h1 : decide (0 ≤ idxAntenna n.antennas x.antenna) = false := Bool.eq_false_iff.2 h1
      have HE : Hid (refersB n x = false) := by show _ = _; unfold refersB; simp only [h0, h1, Bool.and_false, Bool.false_and, Bool.and_true, Bool.true_and, Bool.and_self]
      go_enter Tryz.func154, Tryz.ntmps154
      go_wp2_with (first | (go_at_call 190; refine (HS.out).mono ?_; rintro e w1 ⟨rfl, rfl⟩) | (go_at_call 198; refine (HA.out).mono ?_; rintro e w1 ⟨rfl, rfl⟩) | (go_at_call 199; refine (HR.out).mono ?_; rintro e w1 ⟨rfl, rfl⟩))
      go_ret
      exact ⟨by rw [HE.out]; rfl, by rfl⟩
  · replace h0 : decide (0 ≤ idxSite n.sites x.site) = false := Bool.eq_false_iff.2 h0
    have HE : Hid (refersB n x = false) := by show _ = _; unfold refersB; simp only [h0, Bool.and_false, Bool.false_and, Bool.and_true, Bool.true_and, Bool.and_self]
    go_enter Tryz.func154, Tryz.ntmps154
    go_wp2_with (first | (go_at_call 190; refine (HS.out).mono ?_; rintro e w1 ⟨rfl, rfl⟩) | (go_at_call 198; refine (HA.out).mono ?_; rintro e w1 ⟨rfl, rfl⟩) | (go_at_call 199; refine (HR.out).mono ?_; rintro e w1 ⟨rfl, rfl⟩))
    go_ret
    exact ⟨by rw [HE.out]; rfl, by rfl⟩
end Go.Proofs.YtlfkdhakibagaaaGreat
