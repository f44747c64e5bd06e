/- Contracts of the laws' helpers over slices of texts; counts of marks against sizes. Conditions: bounded lengths. -/
import Derived.Test.YtggkcdeclnoaeaaGreatDoorInts2
import Derived.Test.YtggkcdeclnoaeaaGreatDoorTypes
import Derived.Test.YtggkcdeclnoaeaaGreatDoorOver
import Derived.Test.YtggkcdeclnoaeaaGreatDoorText
namespace Go.Proofs.YtggkcdeclnoaeaaGreatDoor
open Go.RowKit
set_option linter.unusedVariables false

theorem strsT_flat (l : List ByteArray) : strsT l = .sl 1 (l.flatMap fun x => [strT x]) := by rw [strsT, map_flat]
theorem cntL_strs (l : List ByteArray) : cntL (l.map strT) = l.length := by
  induction l with
  | nil => rfl
  | cons x l ih => simp only [List.map_cons, cntL, ih, strT, cnt, List.length_cons]; omega
theorem cnt_strs (l : List ByteArray) : cnt (strsT l) = l.length := by rw [strsT, cnt, cntL_strs]
theorem siz_strs (l : List ByteArray) : siz (strsT l) = l.length + (l.map ByteArray.size).sum := by
  rw [strsT, siz, List.length_map, Nat.div_one]
  congr 1
  induction l with
  | nil => rfl
  | cons x l ih => simp only [List.map_cons, sizL, strT, siz, List.sum_cons, ih]

/-! ### counts against sizes -/
theorem cnt_flat_le {α : Type} (g : α → List Tr) (k K : Nat) (hk : 0 < k) (hg : ∀ x, (g x).length = k) (hc : ∀ x, cntL (g x) ≤ K + K * sizL (g x)) (l : List α) : cnt (.sl k (l.flatMap g)) ≤ K * siz (.sl k (l.flatMap g)) := by
  rw [siz_flat g k hk hg, cnt]
  induction l with
  | nil => simp [cntL]
  | cons x l ih =>
    rw [List.flatMap_cons, cntL_append, sizL_append, List.length_cons]
    have h1 := hc x
    rw [Nat.mul_add] at ih ⊢
    rw [Nat.mul_add, Nat.mul_add]
    omega
theorem DSite.cnt_le (l : List DSite) : cnt (DSite.sT l) ≤ 16 * siz (DSite.sT l) := cnt_flat_le DSite.tr 4 16 (by decide) DSite.tr_len (fun x => by simp only [DSite.tr, cntL, cnt, strT, intT]; omega) l
theorem DSector.cnt_le (l : List DSector) : cnt (DSector.sT l) ≤ 16 * siz (DSector.sT l) := cnt_flat_le DSector.tr 9 16 (by decide) DSector.tr_len (fun x => by simp only [DSector.tr, cntL, cnt, strT, intT]; omega) l
theorem DMode.cnt_le (l : List DMode) : cnt (DMode.sT l) ≤ 16 * siz (DMode.sT l) := cnt_flat_le DMode.tr 2 16 (by decide) DMode.tr_len (fun x => by simp only [DMode.tr, cntL, cnt, intT]; omega) l
theorem DAntenna.cnt_le (l : List DAntenna) : cnt (DAntenna.sT l) ≤ 16 * siz (DAntenna.sT l) := cnt_flat_le DAntenna.tr 4 16 (by decide) DAntenna.tr_len (fun x => by
  have h1 := cnt_ints x.horizontal
  have h2 := siz_ints x.horizontal
  have h3 := cnt_ints x.vertical
  have h4 := siz_ints x.vertical
  simp only [DAntenna.tr, cntL, sizL]
  have h5 : cnt (strT x.name) = 1 := rfl
  have h6 : cnt (intT x.gain) = 1 := rfl
  omega) l
theorem DRadio.cnt_le (l : List DRadio) : cnt (DRadio.sT l) ≤ 16 * siz (DRadio.sT l) := cnt_flat_le DRadio.tr 6 16 (by decide) DRadio.tr_len (fun x => by
  have h1 := DMode.cnt_le x.modes
  simp only [DRadio.tr, cntL, sizL]
  have h5 : cnt (strT x.name) = 1 := rfl
  have h6 : cnt (intT x.power) = 1 := rfl
  have h7 : cnt (intT x.feeder) = 1 := rfl
  have h8 : cnt (intT x.noise) = 1 := rfl
  have h9 : cnt (intT x.width) = 1 := rfl
  omega) l

/-! ### slices of texts -/
theorem eq_StringS (l : List ByteArray) (v v' : Value) (B : Nat) (w : World) (h : Rd B w (strsT l) v) (h' : Rd B w (strsT l) v') (hB : B ≤ w.heap.size) (hn : siz (strsT l) ≤ 1099511627776) :
    Calls Tryz.prog 6 #[v, v'] w fun e w' => e = .returned (.bool true) ∧ Below w.heap.size w w' := by
  have hn2 : l.length ≤ 1099511627776 := by rw [siz_strs] at hn; omega
  have hnb : (l.length : Int) ≤ 1099511627776 := by omega
  clear hn
  obtain ⟨a, c, rfl, hnc, hcm, hcells⟩ := h.strs
  obtain ⟨a', c', rfl, hnc', hcm', hcells'⟩ := h'.strs
  clear h h'
  have hne : ((l.length : Int) != l.length) = false := by simp
  go_enter Tryz.func6, Tryz.ntmps6
  go_wp2
  clear hne
  go_loopw [5] (fun i wr => ∃ (k : Nat), k ≤ l.length ∧ i = .int .i64 k ∧ Below w.heap.size w wr) (fun i wr => l.length - (intOf i).toNat)
  case atStart => exact ⟨0, Nat.zero_le _, rfl, Below.refl _ _⟩
  case round =>
    obtain ⟨k, hk, rfl, hb⟩ := hrel
    by_cases hlt : k < l.length
    · obtain ⟨b, off, rfl, hbl, hat⟩ := hcells (by omega)
      obtain ⟨b', off', rfl, hbl', hat'⟩ := hcells' (by omega)
      have s0 := hat k hlt
      have s1 := hat' k hlt
      rw [← hb.cell (p := ⟨b, _, none⟩) (show b < w.heap.size by omega)] at s0
      rw [← hb.cell (p := ⟨b', _, none⟩) (show b' < w.heap.size by omega)] at s1
      have i1 : (0 : Int) ≤ (k : Int) := by omega
      have i2 : (k : Int) < (l.length : Int) := by omega
      clear hcells hat hcells' hat'
      have HB := Lib.hid hb
      clear hb
      go_wp2
      go_quiet (fail)
      go_wp2
      go_roundw
      case rel => exact ⟨k + 1, by omega, by go_num, below_drewN HB.out _⟩
      case measure => simp [intOf]; omega
    · obtain rfl : k = l.length := by omega
      clear hcells hcells'
      go_wp2
      go_ret
      exact ⟨rfl, hb⟩
set_option maxHeartbeats 1000000 in
theorem mark_StringS (l : List ByteArray) (v : Value) (fp : List Nat) (k0 lo : Nat) (w : World) (h : Own w (strsT l) v fp) (hin : In lo w.heap.size fp) (hs : siz (strsT l) ≤ 1099511627776) (hk0 : k0 + cnt (strsT l) ≤ 1099511627776) (hk1 : 0 < k0) :
    Calls Tryz.prog 7 #[v, .int .i64 k0] w fun e w' => e = .returned (.int .i64 ((k0 + cnt (strsT l) : Nat) : Int)) ∧ Own w' (mkT (strsT l) k0) v fp ∧ Chg fp w w' := by
  rw [cnt_strs] at hk0 ⊢
  obtain ⟨a, c, hv, hnc, hcm⟩ := h.form1
  rw [strsT_flat] at h ⊢
  subst hv
  have hnb : (k0 : Int) + (l.length : Int) ≤ 1099511627776 := by omega
  go_enter Tryz.func7, Tryz.ntmps7
  go_wp2
  go_loopw [1, 5] (fun kk i wr => ∃ (j : Nat), j ≤ l.length ∧ i = .int .i64 j ∧ kk = .int .i64 ((k0 : Int) + (j : Int)) ∧ Own wr (mid (fun x => [strT x]) 1 l k0 j) (.slice a l.length c) fp ∧ Chg fp w wr) (fun _ i wr => l.length - (intOf i).toNat)
  case atStart => exact ⟨0, Nat.zero_le _, rfl, by simp, by rw [mid_zero]; exact h, Chg.refl _ _⟩
  case round =>
    obtain ⟨j, hj, rfl, rfl, hown, hchg⟩ := hrel
    by_cases hlt : j < l.length
    · have hin' : In lo wr.heap.size fp := hin.mono (Nat.le_refl _) hchg.size
      rw [mid_at _ _ _ _ _ hlt] at hown
      have OW := Lib.hid hown
      obtain ⟨b, off, f, n', c', hv, hfp, hcell, hfz, _⟩ := hown.litAt (v0 := .string l[j])
      rw [mkL_length, flat_length _ 1 (fun _ => rfl), List.length_take, Nat.min_eq_left hj, Nat.mul_one] at hcell
      injection hv with hv1 hv2 hv3
      subst hv1
      have hbw := (hin' b (by rw [hfp]; simp)).2
      have HF := Lib.hid hfp
      have HCH := Lib.hid hchg
      clear hfp hv2 hv3 hown hchg
      go_wp2_with fail
      refine (markText_int _ _ (by omega) (by omega)).mono ?_
      rintro e w1 ⟨rfl, hb1⟩
      obtain ⟨qa1, qb1, hbw1⟩ := bcellAt hb1 (b := b) hbw
      have et : ((k0 : Int) + (j : Int)).toNat = k0 + j := by omega
      rw [et]
      have O1 := Lib.hid (OW.out.below hin' (Nat.le_refl _) hb1)
      have HCC := Lib.hid (HCH.out.trans (Chg.of_below hb1))
      clear hb1 et
      go_wp2
      go_roundw
      case rel =>
        refine ⟨j + 1, by omega, by go_num, by go_num, ?_, HCC.out.setCell (by rw [HF.out]; simp) _⟩
        rw [mid_succ _ _ _ _ _ hlt]
        have ec : cntL ((l.take j).flatMap fun x => [strT x]) = j := by
          rw [← map_flat, cntL_strs, List.length_take, Nat.min_eq_left hj]
        rw [ec]
        have em : mkL [strT l[j]] (k0 + j) = [.lit (.string (mtext (k0 + j)))] := by simp [mkL, mkT, strT, mlit]
        rw [em]
        obtain ⟨b2, off2, f2, n2, c2, hv2, _, _, _, hset⟩ := O1.out.litAt (v0 := .string l[j])
        injection hv2 with hv3 _ _
        injection hv3 with hv3
        injection hv3 with hb3 ho3
        subst hb3 ho3
        have := hset (.string (mtext (k0 + j)))
        rw [mkL_length, flat_length _ 1 (fun _ => rfl), List.length_take, Nat.min_eq_left hj, Nat.mul_one] at this
        exact this
      case measure => simp [intOf]; omega
    · obtain rfl : j = l.length := by omega
      go_wp2
      go_ret
      rw [mid_end] at hown
      exact ⟨ret_int (by omega), hown, hchg⟩
set_option maxHeartbeats 1000000 in
theorem held_StringS (l : List ByteArray) (v : Value) (B : Nat) (k0 : Nat) (w : World) (h : Rd B w (mkT (strsT l) k0) v) (hB : B ≤ w.heap.size) (hs : siz (strsT l) ≤ 1099511627776) (hk0 : k0 + cnt (strsT l) ≤ 1099511627776) (hk1 : 0 < k0) :
    Calls Tryz.prog 8 #[v, .int .i64 k0] w fun e w' => e = .returned (.int .i64 ((k0 + cnt (strsT l) : Nat) : Int)) ∧ Below w.heap.size w w' := by
  rw [cnt_strs] at hk0 ⊢
  rw [strsT_flat] at h
  obtain ⟨a, c, rfl, hnc, hcm, hcells⟩ := h.mkAt (k := 1) (g := fun x => [strT x]) (by decide) (fun _ => rfl)
  clear h
  have hnb : (k0 : Int) + (l.length : Int) ≤ 1099511627776 := by omega
  go_enter Tryz.func8, Tryz.ntmps8
  go_wp2
  go_loopw [1, 5] (fun kk i wr => ∃ (j : Nat), j ≤ l.length ∧ i = .int .i64 j ∧ kk = .int .i64 ((k0 : Int) + (j : Int)) ∧ Below w.heap.size w wr) (fun _ i wr => l.length - (intOf i).toNat)
  case atStart => exact ⟨0, Nat.zero_le _, rfl, by simp, Below.refl _ _⟩
  case round =>
    obtain ⟨j, hj, rfl, rfl, hb⟩ := hrel
    by_cases hlt : j < l.length
    · obtain ⟨b, off, rfl, hbl, hat⟩ := hcells (by omega)
      obtain ⟨u, s0, hu⟩ := hat j hlt 0 (.lit (.string (mtext (k0 + j)))) (by
        have ec : cntL ((l.take j).flatMap fun x => [strT x]) = j := by
          rw [← map_flat, cntL_strs, List.length_take, Nat.min_eq_left hj]
        rw [ec]; simp [mkL, mkT, strT, mlit])
      obtain rfl := Rd.lit.1 hu
      rw [← hb.cell (p := ⟨b, _, none⟩) (show b < w.heap.size by omega), Nat.mul_one, Nat.add_zero] at s0
      have yb : b < wr.heap.size := by have := hb.size; omega
      have i1 : (0 : Int) ≤ (j : Int) := by omega
      have i2 : (j : Int) < (l.length : Int) := by omega
      have HB := Lib.hid hb
      have et : ((k0 : Int) + (j : Int)).toNat = k0 + j := by omega
      have HM : Hid (∀ W : World, Calls Tryz.prog 12 #[.int .i64 ((k0 : Int) + (j : Int))] W fun e w' => e = .returned (.string (mtext (k0 + j))) ∧ Below W.heap.size W w') := fun W => by rw [← et]; exact markText_int _ W (by omega) (by omega)
      clear hcells hat hu hb et
      have oB := overC (w0 := wr) yb
      have hne : (!((mtext (k0 + j)).toList == (mtext (k0 + j)).toList)) = false := by simp
      go_wp2
      refine wp_region_over wr.heap.size wr (Below.refl _ _) (by kernel_rfl) (by kernel_rfl) ?_
      repeat (go_big_quiet_step (first | (go_at_call 12; exact over_left (Nat.le_refl _) (HM.out _))))
      refine wpQuiet_nil ?_
      rintro _ ⟨X, rfl⟩
      have hX := over_below wr.heap.size wr X
      clear oB
      generalize over wr.heap.size wr X = w2 at *
      go_wp2
      go_roundw
      case rel => exact ⟨j + 1, by omega, by go_num, by go_num, HB.out.trans (hX.mono HB.out.size)⟩
      case measure => simp [intOf]; omega
    · obtain rfl : j = l.length := by omega
      clear hcells
      go_wp2
      go_ret
      exact ⟨ret_int (by omega), hb⟩
end Go.Proofs.YtggkcdeclnoaeaaGreatDoor
