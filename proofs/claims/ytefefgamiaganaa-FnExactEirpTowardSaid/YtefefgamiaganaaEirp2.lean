/- Contracts: the gain of an antenna toward a direction, for the program and for the reference. Conditions: valid antennas. -/
import Derived.Test.YtefefgamiaganaaEirp1
namespace Go.Proofs.Ytefefgamiaganaa
open Go.RowKit
set_option linter.unusedVariables false
set_option linter.unusedSimpArgs false

set_option maxHeartbeats 4000000 in
theorem vertical_any (x : DAntenna) (vh vv : Value) (e : Int) (w : World) (hh : Rd w.heap.size w (intsT x.vertical) vv) (hL : Loss x.vertical 19) (e0 : -90 ≤ e) (e1 : e ≤ 90) :
    Calls Try.prog 118 #[.agg #[.string x.name, .int .i64 x.gain, vh, vv], .int .i64 e] w fun r w' => r = .returned (.int .i64 (verN x.vertical e)) ∧ Below w.heap.size w w' := by
  obtain ⟨ah, ch, eh, _, _, _⟩ := hh.ints
  subst eh
  have hlen := hL.len
  obtain ⟨b, off, ea, hbl, hat⟩ := hh.intAt (by omega)
  subst ea
  have HU : Hid (verN x.vertical e = mixN (gi x.vertical ((e + 90) / 10).toNat) (gi x.vertical (min ((e + 90) / 10 + 1) 18).toNat) ((e + 90) % 10)) := rfl
  obtain ⟨i, ei⟩ := Int.eq_ofNat_of_zero_le (show 0 ≤ (e + 90) / 10 by omega)
  rw [ei, Int.toNat_natCast] at HU
  have hi : i < 19 := by omega
  obtain ⟨j, ej⟩ : ∃ j : Nat, min ((i : Int) + 1) 18 = (j : Int) := Int.eq_ofNat_of_zero_le (by omega)
  rw [ej, Int.toNat_natCast] at HU
  have hj : j < 19 := by omega
  have s0 := hat i (by omega)
  have s1 := hat j (by omega)
  have q0 := hL.bd i hi
  have q1 := hL.bd j hj
  have b0 : Below w.heap.size w (w.alloc (.cells #[.string x.name, .int .i64 x.gain, vh, .slice (some ⟨b, off, none⟩) x.vertical.length ch] 120)) := (Below.refl _ _).alloc (Nat.le_refl _) _
  have f2 : (w.alloc (.cells #[.string x.name, .int .i64 x.gain, vh, .slice (some ⟨b, off, none⟩) x.vertical.length ch] 120)).cell? ⟨w.heap.size, 3, none⟩ = some (.slice (some ⟨b, off, none⟩) x.vertical.length ch) := by simp [go_sem]
  have t0 := (bat b0 b _ hbl).trans s0
  have t1 := (bat b0 b _ hbl).trans s1
  have u0 : 0 ≤ (e + 90) % 10 := by omega
  have u1 : (e + 90) % 10 ≤ 9 := by omega
  have HM := Lib.hid (fun W => mixedLoss_any (gi x.vertical i) (gi x.vertical j) ((e + 90) % 10) W q0.1 q0.2 q1.1 q1.2 u0 u1)
  have k1 : (0 : Int) ≤ (i : Int) := by omega
  have k2 : (i : Int) < (x.vertical.length : Int) := by omega
  have k3 : (0 : Int) ≤ (j : Int) := by omega
  have k4 : (j : Int) < (x.vertical.length : Int) := by omega
  have k5 : (i : Int) ≤ 18 := by omega
  have B0 := Lib.hid b0
  have HLEN := Lib.hid hlen
  have e2 : 0 ≤ e + 90 := by omega
  clear hat s0 s1 q0 q1 hh hlen hL b0
  go_enter Try.func118, Try.ntmps118
  go_wp2
  generalize w.alloc (.cells #[.string x.name, .int .i64 x.gain, vh, .slice (some ⟨b, off, none⟩) x.vertical.length ch] 120) = W1 at *
  have i3 : IntKind.i64.wrap ((i : Int) + 1) = (i : Int) + 1 := IntWalk.i64_in _ (by omega)
  have i7 : IntKind.i64.wrap (e + 90) = e + 90 := IntWalk.i64_in _ (by omega)
  have i4 : (0 : Int) ≤ (i : Int) + 1 := by omega
  have i6 : Int.tmod (e + 90) 10 = (e + 90) % 10 := Int.tmod_eq_emod_of_nonneg (by omega)
  have hmin : ((i : Int) + 1 < 18 ∧ j = i + 1) ∨ ((i : Int) + 1 = 18 ∧ j = 18) ∨ (18 < (i : Int) + 1 ∧ j = 18) := by omega
  clear ej
  rcases hmin with ⟨m1, m2⟩ | ⟨m1, m2⟩ | ⟨m1, m2⟩
  · subst m2
    have m3 : ((i : Int) + 1).toNat = i + 1 := by omega
    have m4 : (i : Int) + 1 < (x.vertical.length : Int) := by omega
    go_quiet ((go_at_call 132; exact quiet_left (HM.out _)))
    clear i3 i6 i7 m3
    go_wp2
    go_ret
    exact ⟨by rw [HU.out]; rfl, below_drewN B0.out _⟩
  · subst m2
    rw [m1] at i3 i4
    go_quiet ((go_at_call 132; exact quiet_left (HM.out _)))
    clear i3 i6 i7
    go_wp2
    go_ret
    exact ⟨by rw [HU.out]; rfl, below_drewN B0.out _⟩
  · subst m2
    go_quiet ((go_at_call 132; exact quiet_left (HM.out _)))
    clear i3 i6 i7
    go_wp2
    go_ret
    exact ⟨by rw [HU.out]; rfl, below_drewN B0.out _⟩
set_option maxHeartbeats 2000000 in
theorem l06Across_any (x : DAntenna) (vh : Value) (angle : Int) (bp op B : Nat) (w : World) (hh : Rd B w (intsT x.horizontal) vh) (hB : B ≤ w.heap.size) (hp : w.cell? ⟨bp, op + 2, none⟩ = some vh) (hL : Loss x.horizontal 36) :
    Calls Try.prog 113 #[.pointer (some ⟨bp, op, none⟩), .int .i64 angle] w fun e w' => e = .returned (.int .i64 (horN x.horizontal angle)) ∧ ∃ n, w' = w.drewN n := by
  obtain ⟨ah, ch, eh, _, _, _⟩ := hh.ints
  subst eh
  have hlen := hL.len
  obtain ⟨b, off, ea, hbl, hat⟩ := hh.intAt (by omega)
  subst ea
  have hd := deg_bd angle
  have HU : Hid (horN x.horizontal angle = mixN (gi x.horizontal (degN angle / 10).toNat) (gi x.horizontal ((degN angle / 10 + 1) % 36).toNat) (degN angle % 10)) := rfl
  have HD := Lib.hid (l03Degrees_any angle w)
  generalize degN angle = d at *
  obtain ⟨i, ei⟩ := Int.eq_ofNat_of_zero_le (show 0 ≤ d / 10 by omega)
  obtain ⟨j, ej⟩ := Int.eq_ofNat_of_zero_le (show 0 ≤ (d / 10 + 1) % 36 by omega)
  rw [ej, ei, Int.toNat_natCast, Int.toNat_natCast] at HU
  rw [ei] at ej
  have hi : i < 36 := by omega
  have hj : j < 36 := by omega
  have s0 := hat i (by omega)
  have s1 := hat j (by omega)
  have q0 := hL.bd i hi
  have q1 := hL.bd j hj
  have u0 : 0 ≤ d % 10 := by omega
  have u1 : d % 10 ≤ 9 := by omega
  have HM := Lib.hid (fun W => l06Mix_any (gi x.horizontal i) (gi x.horizontal j) (d % 10) W q0.1 q0.2 q1.1 q1.2 u0 u1)
  have k1 : (0 : Int) ≤ (i : Int) := by omega
  have k2 : (i : Int) < (x.horizontal.length : Int) := by omega
  have k3 : (0 : Int) ≤ (j : Int) := by omega
  have k4 : (j : Int) < (x.horizontal.length : Int) := by omega
  have k5 : (i : Int) ≤ 35 := by omega
  clear hat q0 q1 hh hlen hL
  go_enter Try.func113, Try.ntmps113
  go_wp2_with (go_at_call 130; refine (HD.out).mono ?_; rintro e w1 ⟨rfl, rfl⟩)
  have i3 : IntKind.i64.wrap ((i : Int) + 1) = (i : Int) + 1 := IntWalk.i64_in _ (by omega)
  have i4 : (0 : Int) ≤ (i : Int) + 1 := by omega
  have i5 : Int.tmod ((i : Int) + 1) 36 = (j : Int) := by rw [Int.tmod_eq_emod_of_nonneg (by omega)]; exact ej
  have i6 : Int.tmod d 10 = d % 10 := Int.tmod_eq_emod_of_nonneg (by omega)
  go_quiet ((go_at_call 131; exact quiet_left (HM.out _)))
  clear i3 i5 i6
  go_wp2
  go_ret
  exact ⟨by rw [HU.out]; rfl, _, rfl⟩
set_option maxHeartbeats 2000000 in
theorem l06Up_any (x : DAntenna) (vv : Value) (e : Int) (bp op B : Nat) (w : World) (hh : Rd B w (intsT x.vertical) vv) (hB : B ≤ w.heap.size) (hp : w.cell? ⟨bp, op + 3, none⟩ = some vv) (hL : Loss x.vertical 19) (e0 : -90 ≤ e) (e1 : e ≤ 90) :
    Calls Try.prog 114 #[.pointer (some ⟨bp, op, none⟩), .int .i64 e] w fun r w' => r = .returned (.int .i64 (verN x.vertical e)) ∧ ∃ n, w' = w.drewN n := by
  obtain ⟨ah, ch, eh, _, _, _⟩ := hh.ints
  subst eh
  have hlen := hL.len
  obtain ⟨b, off, ea, hbl, hat⟩ := hh.intAt (by omega)
  subst ea
  by_cases h90 : e = 90
  · subst h90
    have s0 := hat 18 (by omega)
    have HU : Hid (verN x.vertical 90 = gi x.vertical 18) := mix_same _
    have k2 : (18 : Int) < (x.vertical.length : Int) := by omega
    have k3 : 18 < x.vertical.length := by omega
    clear hat hh hL hlen
    go_enter Try.func114, Try.ntmps114
    go_wp2
    go_ret
    exact ⟨by rw [HU.out]; rfl, 0, rfl⟩
  · have hne : (e + 90 == 180) = false := by simp; omega
    have HU : Hid (verN x.vertical e = mixN (gi x.vertical ((e + 90) / 10).toNat) (gi x.vertical (min ((e + 90) / 10 + 1) 18).toNat) ((e + 90) % 10)) := rfl
    obtain ⟨i, ei⟩ := Int.eq_ofNat_of_zero_le (show 0 ≤ (e + 90) / 10 by omega)
    have em : min ((e + 90) / 10 + 1) 18 = ((i + 1 : Nat) : Int) := by omega
    rw [em, ei, Int.toNat_natCast, Int.toNat_natCast] at HU
    have hi : i < 18 := by omega
    have s0 := hat i (by omega)
    have s1 := hat (i + 1) (by omega)
    have q0 := hL.bd i (by omega)
    have q1 := hL.bd (i + 1) (by omega)
    have u0 : 0 ≤ (e + 90) % 10 := by omega
    have u1 : (e + 90) % 10 ≤ 9 := by omega
    have HM := Lib.hid (fun W => l06Mix_any (gi x.vertical i) (gi x.vertical (i + 1)) ((e + 90) % 10) W q0.1 q0.2 q1.1 q1.2 u0 u1)
    have k1 : (0 : Int) ≤ (i : Int) := by omega
    have k2 : (i : Int) < (x.vertical.length : Int) := by omega
    have k5 : (i : Int) ≤ 17 := by omega
    have m4 : (i : Int) + 1 < (x.vertical.length : Int) := by omega
    have e2 : 0 ≤ e + 90 := by omega
    clear hat q0 q1 hh hlen hL em h90
    go_enter Try.func114, Try.ntmps114
    go_wp2
    have i3 : IntKind.i64.wrap ((i : Int) + 1) = (i : Int) + 1 := IntWalk.i64_in _ (by omega)
    have i4 : (0 : Int) ≤ (i : Int) + 1 := by omega
    have i6 : Int.tmod (e + 90) 10 = (e + 90) % 10 := Int.tmod_eq_emod_of_nonneg (by omega)
    have i8 : Int.tdiv (e + 90) 10 = (i : Int) := by rw [Int.tdiv_eq_ediv_of_nonneg (by omega)]; exact ei
    have i9 : IntKind.i64.wrap (i : Int) = (i : Int) := IntWalk.i64_in _ (by omega)
    have m3 : ((i : Int) + 1).toNat = i + 1 := by omega
    go_quiet ((go_at_call 131; exact quiet_left (HM.out _)))
    clear i3 i6 i8 i9 m3
    go_wp2
    go_ret
    exact ⟨by rw [HU.out]; rfl, _, rfl⟩
end Go.Proofs.Ytefefgamiaganaa
