/- Contracts: the losses of antennas, for the program and for the reference. Conditions: valid antennas. -/
import Derived.Test.YtefefgamiaganaaNetG
namespace Go.Proofs.Ytefefgamiaganaa
open Go.RowKit
set_option linter.unusedVariables false
set_option linter.unusedSimpArgs false

def mixN (l m u : Int) : Int := (l * (10 - u) + m * u + 5) / 10
theorem mul_bd {l u : Int} (h0 : 0 ≤ l) (h1 : l ≤ 60000) (u0 : 0 ≤ u) (u1 : u ≤ 10) : 0 ≤ l * u ∧ l * u ≤ 600000 := by
  refine ⟨Int.mul_nonneg h0 u0, ?_⟩
  have := Int.mul_le_mul h1 u1 u0 (by omega)
  omega
theorem mix_bd {l m u : Int} (l0 : 0 ≤ l) (l1 : l ≤ 60000) (m0 : 0 ≤ m) (m1 : m ≤ 60000) (u0 : 0 ≤ u) (u1 : u ≤ 9) : 0 ≤ mixN l m u ∧ mixN l m u ≤ 60000 := by
  have e : l * (10 - u) + m * u ≤ 60000 * (10 - u) + 60000 * u := Int.add_le_add (Int.mul_le_mul_of_nonneg_right l1 (by omega)) (Int.mul_le_mul_of_nonneg_right m1 u0)
  have a := Int.mul_nonneg l0 (show 0 ≤ 10 - u by omega)
  have b := Int.mul_nonneg m0 u0
  unfold mixN
  omega
theorem mix_same (l : Int) : mixN l l 0 = l := by unfold mixN; omega
theorem mixedLoss_any (l m u : Int) (w : World) (l0 : 0 ≤ l) (l1 : l ≤ 60000) (m0 : 0 ≤ m) (m1 : m ≤ 60000) (u0 : 0 ≤ u) (u1 : u ≤ 9) :
    Calls Try.prog 132 #[.int .i64 l, .int .i64 m, .int .i64 u] w fun e w' => e = .returned (.int .i64 (mixN l m u)) ∧ w = w' := by
  have a := mul_bd l0 l1 (show 0 ≤ 10 - u by omega) (by omega)
  have b := mul_bd m0 m1 u0 (by omega)
  obtain ⟨a1, a2⟩ := a
  obtain ⟨b1, b2⟩ := b
  have d0 : (0 : Int) ≤ 10 - u := by omega
  unfold mixN
  go_enter Try.func132, Try.ntmps132
  go_wp2
  go_ret
  exact ⟨rfl, rfl⟩
theorem l06Mix_any (l m u : Int) (w : World) (l0 : 0 ≤ l) (l1 : l ≤ 60000) (m0 : 0 ≤ m) (m1 : m ≤ 60000) (u0 : 0 ≤ u) (u1 : u ≤ 9) :
    Calls Try.prog 131 #[.int .i64 l, .int .i64 m, .int .i64 u] w fun e w' => e = .returned (.int .i64 (mixN l m u)) ∧ w = w' := by
  have a := mul_bd l0 l1 (show 0 ≤ 10 - u by omega) (by omega)
  have b := mul_bd m0 m1 u0 (by omega)
  obtain ⟨a1, a2⟩ := a
  obtain ⟨b1, b2⟩ := b
  have d0 : (0 : Int) ≤ 10 - u := by omega
  unfold mixN
  go_enter Try.func131, Try.ntmps131
  go_wp2
  go_ret
  exact ⟨rfl, rfl⟩
def degN (d : Int) : Int := (Int.tmod d 360 + 360) % 360
theorem tmod_bd (d : Int) : -359 ≤ Int.tmod d 360 ∧ Int.tmod d 360 ≤ 359 := by
  have h1 := Int.tmod_lt_of_pos d (show (0 : Int) < 360 by omega)
  have h2 := Int.lt_tmod_of_pos d (show (0 : Int) < 360 by omega)
  omega
theorem deg_bd (d : Int) : 0 ≤ degN d ∧ degN d ≤ 359 := by unfold degN; omega
theorem l03Degrees_any (d : Int) (w : World) : Calls Try.prog 130 #[.int .i64 d] w fun e w' => e = .returned (.int .i64 (degN d)) ∧ w = w' := by
  have h := tmod_bd d
  unfold degN
  generalize ht : Int.tmod d 360 = t at *
  go_enter Try.func130, Try.ntmps130
  go_wp2
  go_ret
  exact ⟨rfl, rfl⟩
/-- what a valid antenna's list gives -/
structure Loss (l : List Int) (n : Nat) : Prop where
  len : l.length = n
  bd : ∀ i, i < n → 0 ≤ gi l i ∧ gi l i ≤ 60000
theorem antB_loss {a : DAntenna} (h : antB a = true) : Loss a.horizontal 36 ∧ Loss a.vertical 19 := by
  rw [antB_eq] at h
  simp only [Bool.and_eq_true] at h
  have key : ∀ (l : List Int) (n m : Nat), lossesB l n m = true → Loss l n := by
    intro l n m hl
    unfold lossesB at hl
    simp only [Bool.and_eq_true] at hl
    have hn := beq_len hl.1
    refine ⟨hn, fun i hi => ?_⟩
    have := (all_iff l 0 60000).1 hl.2.2 i (by omega)
    exact inB_true.1 this
  exact ⟨key _ _ _ h.2.2.1, key _ _ _ h.2.2.2⟩
def horN (l : List Int) (angle : Int) : Int := mixN (gi l (degN angle / 10).toNat) (gi l ((degN angle / 10 + 1) % 36).toNat) (degN angle % 10)
def verN (l : List Int) (e : Int) : Int := mixN (gi l ((e + 90) / 10).toNat) (gi l (min ((e + 90) / 10 + 1) 18).toNat) ((e + 90) % 10)
theorem hor_bd {l : List Int} (h : Loss l 36) (a : Int) : 0 ≤ horN l a ∧ horN l a ≤ 60000 := by
  have hd := deg_bd a
  have h1 := h.bd (degN a / 10).toNat (by omega)
  have h2 := h.bd ((degN a / 10 + 1) % 36).toNat (by omega)
  exact mix_bd h1.1 h1.2 h2.1 h2.2 (by omega) (by omega)
theorem ver_bd {l : List Int} (h : Loss l 19) (e : Int) (e0 : -90 ≤ e) (e1 : e ≤ 90) : 0 ≤ verN l e ∧ verN l e ≤ 60000 := by
  have h1 := h.bd ((e + 90) / 10).toNat (by omega)
  have h2 := h.bd (min ((e + 90) / 10 + 1) 18).toNat (by omega)
  exact mix_bd h1.1 h1.2 h2.1 h2.2 (by omega) (by omega)
/-- a cell of a list that is read -/
theorem Rd.intAt {B : Nat} {w : World} {l : List Int} {a : Option Addr} {c : Nat} (h : Rd B w (intsT l) (.slice a l.length c)) (hl : 0 < l.length) : ∃ b off, a = some ⟨b, off, none⟩ ∧ b < B ∧ ∀ i, i < l.length → w.cell? ⟨b, off + i, none⟩ = some (.int .i64 (gi l i)) := by
  obtain ⟨a', c', e, _, _, hcl⟩ := h.ints
  injection e with e1 _ e3
  subst e1 e3
  obtain ⟨b, off, ea, hb, hat⟩ := hcl hl
  exact ⟨b, off, ea, hb, fun i hi => by rw [hat i hi, gi_eq]⟩
set_option maxHeartbeats 2000000 in
theorem horizontal_any (x : DAntenna) (vh vv : Value) (angle : Int) (w : World) (hh : Rd w.heap.size w (intsT x.horizontal) vh) (hL : Loss x.horizontal 36) :
    Calls Try.prog 117 #[.agg #[.string x.name, .int .i64 x.gain, vh, vv], .int .i64 angle] w fun e w' => e = .returned (.int .i64 (horN x.horizontal angle)) ∧ Below w.heap.size w w' := by
  obtain ⟨ah, ch, eh, _, _, _⟩ := hh.ints
  subst eh
  have hlen := hL.len
  obtain ⟨b, off, ea, hbl, hat⟩ := hh.intAt (by omega)
  subst ea
  have ht := tmod_bd angle
  have hd := deg_bd angle
  have HU : Hid (horN x.horizontal angle = mixN (gi x.horizontal (degN angle / 10).toNat) (gi x.horizontal ((degN angle / 10 + 1) % 36).toNat) (degN angle % 10)) := rfl
  have ed : (Int.tmod angle 360 + 360) % 360 = degN angle := rfl
  generalize degN angle = d at *
  generalize et : Int.tmod angle 360 = t at *
  obtain ⟨i, ei⟩ := Int.eq_ofNat_of_zero_le (show 0 ≤ d / 10 by omega)
  obtain ⟨j, ej⟩ := Int.eq_ofNat_of_zero_le (show 0 ≤ (d / 10 + 1) % 36 by omega)
  rw [ej, ei, Int.toNat_natCast, Int.toNat_natCast] at HU
  rw [ei] at ej
  have hi : i < 36 := by omega
  have hj : j < 36 := by omega
  have s0 := hat i (by omega)
  have s1 := hat j (by omega)
  have q0 := hL.bd i hi
  have q1 := hL.bd j hj
  have b0 : Below w.heap.size w (w.alloc (.cells #[.string x.name, .int .i64 x.gain, .slice (some ⟨b, off, none⟩) x.horizontal.length ch, vv] 120)) := (Below.refl _ _).alloc (Nat.le_refl _) _
  have f2 : (w.alloc (.cells #[.string x.name, .int .i64 x.gain, .slice (some ⟨b, off, none⟩) x.horizontal.length ch, vv] 120)).cell? ⟨w.heap.size, 2, none⟩ = some (.slice (some ⟨b, off, none⟩) x.horizontal.length ch) := by simp [go_sem]
  have t0 := (bat b0 b _ hbl).trans s0
  have t1 := (bat b0 b _ hbl).trans s1
  have u0 : 0 ≤ d % 10 := by omega
  have u1 : d % 10 ≤ 9 := by omega
  have HM := Lib.hid (fun W => mixedLoss_any (gi x.horizontal i) (gi x.horizontal j) (d % 10) W q0.1 q0.2 q1.1 q1.2 u0 u1)
  have k1 : (0 : Int) ≤ (i : Int) := by omega
  have k2 : (i : Int) < (x.horizontal.length : Int) := by omega
  have k3 : (0 : Int) ≤ (j : Int) := by omega
  have k4 : (j : Int) < (x.horizontal.length : Int) := by omega
  have k5 : (i : Int) ≤ 35 := by omega
  have B0 := Lib.hid b0
  have HLEN := Lib.hid hlen
  clear hat s0 s1 q0 q1 hh hlen hL b0
  go_enter Try.func117, Try.ntmps117
  go_wp2
  generalize w.alloc (.cells #[.string x.name, .int .i64 x.gain, .slice (some ⟨b, off, none⟩) x.horizontal.length ch, vv] 120) = W1 at *
  have i3 : IntKind.i64.wrap ((i : Int) + 1) = (i : Int) + 1 := IntWalk.i64_in _ (by omega)
  have i4 : (0 : Int) ≤ (i : Int) + 1 := by omega
  have i5 : Int.tmod ((i : Int) + 1) 36 = (j : Int) := by rw [Int.tmod_eq_emod_of_nonneg (by omega)]; exact ej
  have i6 : Int.tmod d 10 = d % 10 := Int.tmod_eq_emod_of_nonneg (by omega)
  go_quiet ((go_at_call 132; exact quiet_left (HM.out _)))
  clear i3 i5 i6
  go_wp2
  go_ret
  exact ⟨by rw [HU.out]; rfl, below_drewN B0.out _⟩
end Go.Proofs.Ytefefgamiaganaa
