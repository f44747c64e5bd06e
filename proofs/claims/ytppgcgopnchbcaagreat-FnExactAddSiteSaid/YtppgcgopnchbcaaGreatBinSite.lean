/- Contract: slices.BinarySearchFunc over Sites by their names. Conditions: bounded lengths. -/
import Derived.Test.YtppgcgopnchbcaaGreatBin
import Derived.Test.YtppgcgopnchbcaaGreatHSite
namespace Go.Proofs.YtppgcgopnchbcaaGreat
open Go.RowKit
set_option linter.unusedVariables false

theorem cmpSite_any (x y : DSite) (w : World) : Calls Tryz.prog 77 #[.agg #[.string x.name, .string x.holder, .int .i64 x.place.x, .int .i64 x.place.y], .agg #[.string y.name, .string y.holder, .int .i64 y.place.x, .int .i64 y.place.y]] w fun e w' => e = .returned (.int .i64 (cmpS x.name y.name)) ∧ Below w.heap.size w w' := by
  go_enter Tryz.func77, Tryz.ntmps77
  go_wp2_with fail
  refine (stringsCompare_any _ _ _).mono ?_
  rintro e _ ⟨rfl, rfl⟩
  go_wp2
  go_ret
  exact ⟨rfl, ((Below.refl _ _).alloc (Nat.le_refl _) _).alloc (by simp) _⟩
def belSite (l : List DSite) (nm : ByteArray) (k : Nat) : Bool := match l[k]? with | some y => decide (cmpS y.name nm < 0) | none => false
theorem belSite_at {l : List DSite} {nm : ByteArray} {k : Nat} (h : k < l.length) : belSite l nm k = decide (cmpS l[k].name nm < 0) := by unfold belSite; rw [List.getElem?_eq_getElem h]
set_option maxHeartbeats 2000000 in
set_option maxRecDepth 100000 in
theorem binSite_any (l : List DSite) (x : DSite) (v : Value) (w : World) (h : Rd w.heap.size w (DSite.sT l) v) (hn : l.length ≤ 1048576) :
    Calls Tryz.prog 76 #[v, .agg #[.string x.name, .string x.holder, .int .i64 x.place.x, .int .i64 x.place.y], .func (.func 77) #[] #[]] w (BinP l.length (belSite l x.name) w) := by
  obtain ⟨a, c, rfl, hnc, hcm, hcells⟩ := DSite.rd h
  have HC := Lib.hid hcells
  clear h hcells
  have hnb : (l.length : Int) ≤ 1048576 := by omega
  have b0 : Below w.heap.size w (w.alloc (.cells #[.string x.name, .string x.holder, .int .i64 x.place.x, .int .i64 x.place.y] 62)) := (Below.refl _ _).alloc (Nat.le_refl _) _
  have k0 : (w.alloc (.cells #[.string x.name, .string x.holder, .int .i64 x.place.x, .int .i64 x.place.y] 62)).heap[w.heap.size]? = some (.cells #[.string x.name, .string x.holder, .int .i64 x.place.x, .int .i64 x.place.y] 62 (0, 0)) := by show (w.heap.push _)[w.heap.size]? = _; simp
  have z0 : (w.alloc (.cells #[.string x.name, .string x.holder, .int .i64 x.place.x, .int .i64 x.place.y] 62)).heap.size = w.heap.size + 1 := by simp
  go_enter Tryz.func76, Tryz.ntmps76
  go_upto_region 2 with (fail)
  generalize w.alloc (.cells #[.string x.name, .string x.holder, .int .i64 x.place.x, .int .i64 x.place.y] 62) = W at *
  have B0 := Lib.hid b0
  have K0 := Lib.hid k0
  have Z0 := Lib.hid z0
  have zl : w.heap.size < W.heap.size := by omega
  clear b0 k0 z0
  go_wp2
  go_loopw [9, 10] (fun vi vj wr => ∃ (i j : Nat), i ≤ j ∧ j ≤ l.length ∧ vi = .int .i64 i ∧ vj = .int .i64 j ∧ (0 < i → belSite l x.name (i - 1) = true) ∧ (j < l.length → belSite l x.name j = false) ∧ Below W.heap.size W wr) (fun vi vj wr => (intOf vj - intOf vi).toNat)
  case atStart => exact ⟨0, l.length, Nat.zero_le _, Nat.le_refl _, rfl, rfl, fun h => absurd h (by omega), fun h => absurd h (by omega), Below.refl _ _⟩
  case round =>
    obtain ⟨i, j, hij, hj, rfl, rfl, hlo, hhi, hb⟩ := hrel
    have HLO := Lib.hid hlo
    have HHI := Lib.hid hhi
    have HB := Lib.hid hb
    have zr : W.heap.size ≤ wr.heap.size := hb.size
    clear hlo hhi hb
    by_cases hlt : i < j
    · obtain ⟨m, hm⟩ : ∃ m : Nat, ((i : Int) + (j : Int)) / 2 = (m : Int) := ⟨((i + j) / 2), by omega⟩
      have hm1 : i ≤ m := by omega
      have hm2 : m < j := by omega
      have hml : m < l.length := by omega
      have HM := Lib.hid hm
      clear hm
      obtain ⟨b, off, rfl, hbl, hat⟩ := HC.out (by omega)
      obtain ⟨s0, s1, s2, s3⟩ := hat m hml
      have ybw : b < wr.heap.size := by omega
      have yt : w.heap.size < wr.heap.size := by omega
      rw [← (B0.out.trans (HB.out.mono (by omega))).cell (p := ⟨b, _, none⟩) hbl] at s0 s1 s2 s3
      have kr := (HB.out.block w.heap.size (by omega)).trans K0.out
      have t0 := (cell_of_row' (w := wr) kr 0).trans (show _ = some (.string x.name) from rfl)
      have t1 := (cell_of_row' (w := wr) kr 1).trans (show _ = some (.string x.holder) from rfl)
      have t2 := (cell_of_row' (w := wr) kr 2).trans (show _ = some (.int .i64 x.place.x) from rfl)
      have t3 := (cell_of_row' (w := wr) kr 3).trans (show _ = some (.int .i64 x.place.y) from rfl)
      have oB := overC (w0 := wr) ybw
      have oT := overC (w0 := wr) yt
      clear hat kr
      go_upto_region 5 with (fail)
      rw [HM.out]
      have j1 : (m : Int) < (l.length : Int) := by omega
      have j2 : (0 : Int) ≤ (m : Int) := by omega
      by_cases hd : cmpS l[m].name x.name < 0
      · have hd2 : decide (cmpS l[m].name x.name < 0) = true := by simpa using hd
        have HD : Hid (belSite l x.name m = true) := by show _ = _; rw [belSite_at hml]; exact hd2
        clear hd
        refine wp_region_over wr.heap.size wr (Below.refl _ _) (by kernel_rfl) (by kernel_rfl) ?_
        repeat (go_big_quiet_step (first | (go_at_call 77; exact over_left (Nat.le_refl _) (cmpSite_any l[m] x _))))
        refine wpQuiet_nil ?_
        rintro _ ⟨X, rfl⟩
        have hX := over_below wr.heap.size wr X
        clear oB oT s0 t0 s1 t1 s2 t2 s3 t3
        generalize over wr.heap.size wr X = w2 at *
        go_wp2
        go_roundw
        case rel => exact ⟨m + 1, j, by omega, by omega, by go_num, rfl, fun _ => HD.out, HHI.out, HB.out.trans (hX.mono (by omega))⟩
        case measure => simp [intOf]; omega
      · have hd2 : decide (cmpS l[m].name x.name < 0) = false := by simpa using hd
        have HD : Hid (belSite l x.name m = false) := by show _ = _; rw [belSite_at hml]; exact hd2
        clear hd
        refine wp_region_over wr.heap.size wr (Below.refl _ _) (by kernel_rfl) (by kernel_rfl) ?_
        repeat (go_big_quiet_step (first | (go_at_call 77; exact over_left (Nat.le_refl _) (cmpSite_any l[m] x _))))
        refine wpQuiet_nil ?_
        rintro _ ⟨X, rfl⟩
        have hX := over_below wr.heap.size wr X
        clear oB oT s0 t0 s1 t1 s2 t2 s3 t3
        generalize over wr.heap.size wr X = w2 at *
        go_wp2
        go_roundw
        case rel => exact ⟨i, m, by omega, by omega, rfl, rfl, HLO.out, fun _ => HD.out, HB.out.trans (hX.mono (by omega))⟩
        case measure => simp [intOf]; omega
    · obtain rfl : i = j := by omega
      have BW := Lib.hid (B0.out.trans (HB.out.mono (by omega)))
      go_upto_region 8 with (fail)
      by_cases hil : i < l.length
      · obtain ⟨b, off, rfl, hbl, hat⟩ := HC.out (by omega)
        obtain ⟨s0, s1, s2, s3⟩ := hat i hil
        have ybw : b < wr.heap.size := by omega
        have yt : w.heap.size < wr.heap.size := by omega
        rw [← BW.out.cell (p := ⟨b, _, none⟩) hbl] at s0 s1 s2 s3
        have kr := (HB.out.block w.heap.size (by omega)).trans K0.out
        have t0 := (cell_of_row' (w := wr) kr 0).trans (show _ = some (.string x.name) from rfl)
        have t1 := (cell_of_row' (w := wr) kr 1).trans (show _ = some (.string x.holder) from rfl)
        have t2 := (cell_of_row' (w := wr) kr 2).trans (show _ = some (.int .i64 x.place.x) from rfl)
        have t3 := (cell_of_row' (w := wr) kr 3).trans (show _ = some (.int .i64 x.place.y) from rfl)
        have oB := overC (w0 := wr) ybw
        have oT := overC (w0 := wr) yt
        clear hat kr
        have j1 : (i : Int) < (l.length : Int) := by omega
        have j2 : (0 : Int) ≤ (i : Int) := by omega
        have j3 : decide ((i : Int) < (l.length : Int)) = true := by simpa using j1
        have j4 : decide (i < l.length) = true := by simpa using hil
        refine wp_region_over wr.heap.size wr (Below.refl _ _) (by kernel_rfl) (by kernel_rfl) ?_
        repeat (go_big_quiet_step (first | (go_at_call 77; exact over_left (Nat.le_refl _) (cmpSite_any l[i] x _))))
        refine wpQuiet_nil ?_
        rintro _ ⟨X, rfl⟩
        have hX := over_below wr.heap.size wr X
        clear oB oT s0 t0 s1 t1 s2 t2 s3 t3
        generalize over wr.heap.size wr X = w2 at *
        go_wp2
        go_ret2
        exact ⟨i, _, by omega, rfl, BW.out.trans (hX.mono (by omega)), HLO.out, HHI.out⟩
      · have j3 : decide ((i : Int) < (l.length : Int)) = false := by simp; omega
        have j4 : decide (i < l.length) = false := by simp; omega
        refine wp_region_over wr.heap.size wr (Below.refl _ _) (by kernel_rfl) (by kernel_rfl) ?_
        repeat (go_big_quiet_step (fail))
        refine wpQuiet_nil ?_
        rintro _ ⟨X, rfl⟩
        have hX := over_below wr.heap.size wr X
        generalize over wr.heap.size wr X = w2 at *
        go_wp2
        go_ret2
        exact ⟨i, _, by omega, rfl, BW.out.trans (hX.mono (by omega)), HLO.out, HHI.out⟩
end Go.Proofs.YtppgcgopnchbcaaGreat
