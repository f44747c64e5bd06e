/- Contract: slices.BinarySearchFunc over Sectors by their names. Conditions: bounded lengths. -/
import Derived.Test.YtppgcgopnchbcaaGreatBin
import Derived.Test.YtppgcgopnchbcaaGreatHSector
namespace Go.Proofs.YtppgcgopnchbcaaGreat
open Go.RowKit
set_option linter.unusedVariables false

theorem cmpSector_any (x y : DSector) (w : World) : Calls Tryz.prog 82 #[.agg #[.string x.name, .string x.site, .string x.antenna, .string x.radio, .string x.band, .int .i64 x.azimuth, .int .i64 x.tilt, .int .i64 x.above, .int .i64 x.channel], .agg #[.string y.name, .string y.site, .string y.antenna, .string y.radio, .string y.band, .int .i64 y.azimuth, .int .i64 y.tilt, .int .i64 y.above, .int .i64 y.channel]] w fun e w' => e = .returned (.int .i64 (cmpS x.name y.name)) ∧ Below w.heap.size w w' := by
  go_enter Tryz.func82, Tryz.ntmps82
  go_wp2_with fail
  refine (stringsCompare_any _ _ _).mono ?_
  rintro e _ ⟨rfl, rfl⟩
  go_wp2
  go_ret
  exact ⟨rfl, ((Below.refl _ _).alloc (Nat.le_refl _) _).alloc (by simp) _⟩
def belSector (l : List DSector) (nm : ByteArray) (k : Nat) : Bool := match l[k]? with | some y => decide (cmpS y.name nm < 0) | none => false
theorem belSector_at {l : List DSector} {nm : ByteArray} {k : Nat} (h : k < l.length) : belSector l nm k = decide (cmpS l[k].name nm < 0) := by unfold belSector; rw [List.getElem?_eq_getElem h]
set_option maxHeartbeats 2000000 in
set_option maxRecDepth 100000 in
theorem binSector_any (l : List DSector) (x : DSector) (v : Value) (w : World) (h : Rd w.heap.size w (DSector.sT l) v) (hn : l.length ≤ 1048576) :
    Calls Tryz.prog 81 #[v, .agg #[.string x.name, .string x.site, .string x.antenna, .string x.radio, .string x.band, .int .i64 x.azimuth, .int .i64 x.tilt, .int .i64 x.above, .int .i64 x.channel], .func (.func 82) #[] #[]] w (BinP l.length (belSector l x.name) w) := by
  obtain ⟨a, c, rfl, hnc, hcm, hcells⟩ := DSector.rd h
  have HC := Lib.hid hcells
  clear h hcells
  have hnb : (l.length : Int) ≤ 1048576 := by omega
  have b0 : Below w.heap.size w (w.alloc (.cells #[.string x.name, .string x.site, .string x.antenna, .string x.radio, .string x.band, .int .i64 x.azimuth, .int .i64 x.tilt, .int .i64 x.above, .int .i64 x.channel] 49)) := (Below.refl _ _).alloc (Nat.le_refl _) _
  have k0 : (w.alloc (.cells #[.string x.name, .string x.site, .string x.antenna, .string x.radio, .string x.band, .int .i64 x.azimuth, .int .i64 x.tilt, .int .i64 x.above, .int .i64 x.channel] 49)).heap[w.heap.size]? = some (.cells #[.string x.name, .string x.site, .string x.antenna, .string x.radio, .string x.band, .int .i64 x.azimuth, .int .i64 x.tilt, .int .i64 x.above, .int .i64 x.channel] 49 (0, 0)) := by show (w.heap.push _)[w.heap.size]? = _; simp
  have z0 : (w.alloc (.cells #[.string x.name, .string x.site, .string x.antenna, .string x.radio, .string x.band, .int .i64 x.azimuth, .int .i64 x.tilt, .int .i64 x.above, .int .i64 x.channel] 49)).heap.size = w.heap.size + 1 := by simp
  go_enter Tryz.func81, Tryz.ntmps81
  go_upto_region 2 with (fail)
  generalize w.alloc (.cells #[.string x.name, .string x.site, .string x.antenna, .string x.radio, .string x.band, .int .i64 x.azimuth, .int .i64 x.tilt, .int .i64 x.above, .int .i64 x.channel] 49) = W at *
  have B0 := Lib.hid b0
  have K0 := Lib.hid k0
  have Z0 := Lib.hid z0
  have zl : w.heap.size < W.heap.size := by omega
  clear b0 k0 z0
  go_wp2
  go_loopw [9, 10] (fun vi vj wr => ∃ (i j : Nat), i ≤ j ∧ j ≤ l.length ∧ vi = .int .i64 i ∧ vj = .int .i64 j ∧ (0 < i → belSector l x.name (i - 1) = true) ∧ (j < l.length → belSector l x.name j = false) ∧ Below W.heap.size W wr) (fun vi vj wr => (intOf vj - intOf vi).toNat)
  case atStart => exact ⟨0, l.length, Nat.zero_le _, Nat.le_refl _, rfl, rfl, fun h => absurd h (by omega), fun h => absurd h (by omega), Below.refl _ _⟩
  case round =>
    obtain ⟨i, j, hij, hj, rfl, rfl, hlo, hhi, hb⟩ := hrel
    have HLO := Lib.hid hlo
    have HHI := Lib.hid hhi
    have HB := Lib.hid hb
    have zr : W.heap.size ≤ wr.heap.size := hb.size
    clear hlo hhi hb
    by_cases hlt : i < j
    · obtain ⟨m, hm⟩ : ∃ m : Nat, ((i : Int) + (j : Int)) / 2 = (m : Int) := ⟨((i + j) / 2), by omega⟩
      have hm1 : i ≤ m := by omega
      have hm2 : m < j := by omega
      have hml : m < l.length := by omega
      have HM := Lib.hid hm
      clear hm
      obtain ⟨b, off, rfl, hbl, hat⟩ := HC.out (by omega)
      obtain ⟨s0, s1, s2, s3, s4, s5, s6, s7, s8⟩ := hat m hml
      have ybw : b < wr.heap.size := by omega
      have yt : w.heap.size < wr.heap.size := by omega
      rw [← (B0.out.trans (HB.out.mono (by omega))).cell (p := ⟨b, _, none⟩) hbl] at s0 s1 s2 s3 s4 s5 s6 s7 s8
      have kr := (HB.out.block w.heap.size (by omega)).trans K0.out
      have t0 := (cell_of_row' (w := wr) kr 0).trans (show _ = some (.string x.name) from rfl)
      have t1 := (cell_of_row' (w := wr) kr 1).trans (show _ = some (.string x.site) from rfl)
      have t2 := (cell_of_row' (w := wr) kr 2).trans (show _ = some (.string x.antenna) from rfl)
      have t3 := (cell_of_row' (w := wr) kr 3).trans (show _ = some (.string x.radio) from rfl)
      have t4 := (cell_of_row' (w := wr) kr 4).trans (show _ = some (.string x.band) from rfl)
      have t5 := (cell_of_row' (w := wr) kr 5).trans (show _ = some (.int .i64 x.azimuth) from rfl)
      have t6 := (cell_of_row' (w := wr) kr 6).trans (show _ = some (.int .i64 x.tilt) from rfl)
      have t7 := (cell_of_row' (w := wr) kr 7).trans (show _ = some (.int .i64 x.above) from rfl)
      have t8 := (cell_of_row' (w := wr) kr 8).trans (show _ = some (.int .i64 x.channel) from rfl)
      have oB := overC (w0 := wr) ybw
      have oT := overC (w0 := wr) yt
      clear hat kr
      go_upto_region 5 with (fail)
      rw [HM.out]
      have j1 : (m : Int) < (l.length : Int) := by omega
      have j2 : (0 : Int) ≤ (m : Int) := by omega
      by_cases hd : cmpS l[m].name x.name < 0
      · have hd2 : decide (cmpS l[m].name x.name < 0) = true := by simpa using hd
        have HD : Hid (belSector l x.name m = true) := by show _ = _; rw [belSector_at hml]; exact hd2
        clear hd
        refine wp_region_over wr.heap.size wr (Below.refl _ _) (by kernel_rfl) (by kernel_rfl) ?_
        repeat (go_big_quiet_step (first | (go_at_call 82; exact over_left (Nat.le_refl _) (cmpSector_any l[m] x _))))
        refine wpQuiet_nil ?_
        rintro _ ⟨X, rfl⟩
        have hX := over_below wr.heap.size wr X
        clear oB oT s0 t0 s1 t1 s2 t2 s3 t3 s4 t4 s5 t5 s6 t6 s7 t7 s8 t8
        generalize over wr.heap.size wr X = w2 at *
        go_wp2
        go_roundw
        case rel => exact ⟨m + 1, j, by omega, by omega, by go_num, rfl, fun _ => HD.out, HHI.out, HB.out.trans (hX.mono (by omega))⟩
        case measure => simp [intOf]; omega
      · have hd2 : decide (cmpS l[m].name x.name < 0) = false := by simpa using hd
        have HD : Hid (belSector l x.name m = false) := by show _ = _; rw [belSector_at hml]; exact hd2
        clear hd
        refine wp_region_over wr.heap.size wr (Below.refl _ _) (by kernel_rfl) (by kernel_rfl) ?_
        repeat (go_big_quiet_step (first | (go_at_call 82; exact over_left (Nat.le_refl _) (cmpSector_any l[m] x _))))
        refine wpQuiet_nil ?_
        rintro _ ⟨X, rfl⟩
        have hX := over_below wr.heap.size wr X
        clear oB oT s0 t0 s1 t1 s2 t2 s3 t3 s4 t4 s5 t5 s6 t6 s7 t7 s8 t8
        generalize over wr.heap.size wr X = w2 at *
        go_wp2
        go_roundw
        case rel => exact ⟨i, m, by omega, by omega, rfl, rfl, HLO.out, fun _ => HD.out, HB.out.trans (hX.mono (by omega))⟩
        case measure => simp [intOf]; omega
    · obtain rfl : i = j := by omega
      have BW := Lib.hid (B0.out.trans (HB.out.mono (by omega)))
      go_upto_region 8 with (fail)
      by_cases hil : i < l.length
      · obtain ⟨b, off, rfl, hbl, hat⟩ := HC.out (by omega)
        obtain ⟨s0, s1, s2, s3, s4, s5, s6, s7, s8⟩ := hat i hil
        have ybw : b < wr.heap.size := by omega
        have yt : w.heap.size < wr.heap.size := by omega
        rw [← BW.out.cell (p := ⟨b, _, none⟩) hbl] at s0 s1 s2 s3 s4 s5 s6 s7 s8
        have kr := (HB.out.block w.heap.size (by omega)).trans K0.out
        have t0 := (cell_of_row' (w := wr) kr 0).trans (show _ = some (.string x.name) from rfl)
        have t1 := (cell_of_row' (w := wr) kr 1).trans (show _ = some (.string x.site) from rfl)
        have t2 := (cell_of_row' (w := wr) kr 2).trans (show _ = some (.string x.antenna) from rfl)
        have t3 := (cell_of_row' (w := wr) kr 3).trans (show _ = some (.string x.radio) from rfl)
        have t4 := (cell_of_row' (w := wr) kr 4).trans (show _ = some (.string x.band) from rfl)
        have t5 := (cell_of_row' (w := wr) kr 5).trans (show _ = some (.int .i64 x.azimuth) from rfl)
        have t6 := (cell_of_row' (w := wr) kr 6).trans (show _ = some (.int .i64 x.tilt) from rfl)
        have t7 := (cell_of_row' (w := wr) kr 7).trans (show _ = some (.int .i64 x.above) from rfl)
        have t8 := (cell_of_row' (w := wr) kr 8).trans (show _ = some (.int .i64 x.channel) from rfl)
        have oB := overC (w0 := wr) ybw
        have oT := overC (w0 := wr) yt
        clear hat kr
        have j1 : (i : Int) < (l.length : Int) := by omega
        have j2 : (0 : Int) ≤ (i : Int) := by omega
        have j3 : decide ((i : Int) < (l.length : Int)) = true := by simpa using j1
        have j4 : decide (i < l.length) = true := by simpa using hil
        refine wp_region_over wr.heap.size wr (Below.refl _ _) (by kernel_rfl) (by kernel_rfl) ?_
        repeat (go_big_quiet_step (first | (go_at_call 82; exact over_left (Nat.le_refl _) (cmpSector_any l[i] x _))))
        refine wpQuiet_nil ?_
        rintro _ ⟨X, rfl⟩
        have hX := over_below wr.heap.size wr X
        clear oB oT s0 t0 s1 t1 s2 t2 s3 t3 s4 t4 s5 t5 s6 t6 s7 t7 s8 t8
        generalize over wr.heap.size wr X = w2 at *
        go_wp2
        go_ret2
        exact ⟨i, _, by omega, rfl, BW.out.trans (hX.mono (by omega)), HLO.out, HHI.out⟩
      · have j3 : decide ((i : Int) < (l.length : Int)) = false := by simp; omega
        have j4 : decide (i < l.length) = false := by simp; omega
        refine wp_region_over wr.heap.size wr (Below.refl _ _) (by kernel_rfl) (by kernel_rfl) ?_
        repeat (go_big_quiet_step (fail))
        refine wpQuiet_nil ?_
        rintro _ ⟨X, rfl⟩
        have hX := over_below wr.heap.size wr X
        generalize over wr.heap.size wr X = w2 at *
        go_wp2
        go_ret2
        exact ⟨i, _, by omega, rfl, BW.out.trans (hX.mono (by omega)), HLO.out, HHI.out⟩
end Go.Proofs.YtppgcgopnchbcaaGreat
