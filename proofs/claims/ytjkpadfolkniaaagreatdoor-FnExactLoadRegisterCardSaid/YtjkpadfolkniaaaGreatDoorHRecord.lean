/- Contracts of the laws' helpers over the type Record and slices of it. Conditions: bounded lengths. -/
import Derived.Test.YtjkpadfolkniaaaGreatDoorInts2
import Derived.Test.YtjkpadfolkniaaaGreatDoorTypes
import Derived.Test.YtjkpadfolkniaaaGreatDoorText
import Derived.Test.YtjkpadfolkniaaaGreatDoorOver
namespace Go.Proofs.YtjkpadfolkniaaaGreatDoor
open Go.RowKit
set_option linter.unusedVariables false

theorem eq_Record (x : DRecord) (w : World) :
    Calls Tryz.prog 54 #[.agg #[.string x.key, .string x.value], .agg #[.string x.key, .string x.value]] w fun e w' => e = .returned (.bool true) ∧ Below w.heap.size w w' := by
  go_enter Tryz.func54, Tryz.ntmps54
  go_wp2
  go_ret
  exact ⟨rfl, ((Below.refl _ _).alloc (Nat.le_refl _) _).alloc (by simp) _⟩
theorem DRecord.sT_eq (l : List DRecord) : DRecord.sT l = .sl 2 (l.flatMap DRecord.tr) := rfl
theorem DRecord.siz_s (l : List DRecord) : siz (DRecord.sT l) = l.length + sizL (l.flatMap DRecord.tr) := siz_flat DRecord.tr 2 (by decide) DRecord.tr_len l
theorem DRecord.cnt_tr (x : DRecord) : cntL x.tr = 2 := by simp only [DRecord.tr, cntL, cnt, strT]
set_option maxHeartbeats 2000000 in
set_option maxRecDepth 100000 in
theorem eq_RecordS (l : List DRecord) (v v' : Value) (B : Nat) (w : World) (h : Rd B w (DRecord.sT l) v) (h' : Rd B w (DRecord.sT l) v') (hB : B ≤ w.heap.size) (hn : siz (DRecord.sT l) ≤ 1099511627776) :
    Calls Tryz.prog 24 #[v, v'] w fun e w' => e = .returned (.bool true) ∧ Below w.heap.size w w' := by
  rw [DRecord.siz_s] at hn
  have hnb : (l.length : Int) ≤ 1099511627776 := by omega
  obtain ⟨a, c, rfl, hnc, hcm, hcells⟩ := DRecord.rd h
  obtain ⟨a', c', rfl, hnc', hcm', hcells'⟩ := DRecord.rd h'
  clear h h'
  have hne : ((l.length : Int) != l.length) = false := by simp
  go_enter Tryz.func24, Tryz.ntmps24
  go_wp2
  clear hne
  go_loopw [5] (fun i wr => ∃ (k : Nat), k ≤ l.length ∧ i = .int .i64 k ∧ Below w.heap.size w wr) (fun i wr => l.length - (intOf i).toNat)
  case atStart => exact ⟨0, Nat.zero_le _, rfl, Below.refl _ _⟩
  case round =>
    obtain ⟨k, hk, rfl, hb⟩ := hrel
    by_cases hlt : k < l.length
    · obtain ⟨b, off, rfl, hbl, hat⟩ := hcells (by omega)
      obtain ⟨b', off', rfl, hbl', hat'⟩ := hcells' (by omega)
      obtain ⟨s0, s1⟩ := hat k hlt
      obtain ⟨sb0, sb1⟩ := hat' k hlt
      rw [← hb.cell (p := ⟨b, _, none⟩) (show b < w.heap.size by omega)] at s0 s1
      rw [← hb.cell (p := ⟨b', _, none⟩) (show b' < w.heap.size by omega)] at sb0 sb1
      have hB' : B ≤ wr.heap.size := by have := hb.size; omega
      have hsl := sizL_get_le DRecord.tr l k hlt
      have i1 : (0 : Int) ≤ (k : Int) := by omega
      have i2 : (k : Int) < (l.length : Int) := by omega
      have HB := Lib.hid hb
      clear hcells hat hcells' hat' hb 
      go_wp2
      go_still_tail 8, (by kernel_rfl)
      change wpList _ _ _ _ _ wr.drew
      go_wp2_with (go_at_call 54; refine (eq_Record l[k]   _  ).mono ?_; rintro e w1 ⟨rfl, hb1⟩)
      go_roundw
      case rel => exact ⟨k + 1, by omega, by go_num, HB.out.drew.trans (hb1.mono HB.out.size)⟩
      case measure => simp [intOf]; omega
    · obtain rfl : k = l.length := by omega
      clear hcells hcells'
      go_wp2
      go_ret
      exact ⟨rfl, hb⟩
theorem DRecord.mk_tr (x : DRecord) (K : Nat) : mkL x.tr K = [.lit (.string (mtext (K))), .lit (.string (mtext (K + 1)))] := rfl
theorem DRecord.cntL_tr (x : DRecord) : cntL x.tr = 1 + 1 := by rfl
set_option maxHeartbeats 4000000 in
set_option maxRecDepth 100000 in
theorem mark_RecordS (l : List DRecord) (v : Value) (fp : List Nat) (k0 lo : Nat) (w : World) (h : Own w (DRecord.sT l) v fp) (hin : In lo w.heap.size fp) (hs : siz (DRecord.sT l) ≤ 1099511627776) (hk0 : k0 + cnt (DRecord.sT l) ≤ 1099511627776) (hk1 : 0 < k0) :
    Calls Tryz.prog 26 #[v, .int .i64 k0] w fun e w' => e = .returned (.int .i64 ((k0 + cnt (DRecord.sT l) : Nat) : Int)) ∧ Own w' (mkT (DRecord.sT l) k0) v fp ∧ Chg fp w w' := by
  rw [DRecord.siz_s] at hs
  obtain ⟨a, c, hv, hnc, hcm⟩ := h.form (k := 2) (g := DRecord.tr) (by decide) DRecord.tr_len
  subst hv
  rw [show cnt (DRecord.sT l) = cntL (l.flatMap DRecord.tr) from by rw [DRecord.sT, cnt]] at hk0 ⊢
  have hnb : (l.length : Int) ≤ 1099511627776 := by omega
  go_enter Tryz.func26, Tryz.ntmps26
  go_wp2
  go_loopw [1, 5] (fun kk i wr => ∃ (j K : Nat), j ≤ l.length ∧ i = .int .i64 j ∧ K = k0 + cntL ((l.take j).flatMap DRecord.tr) ∧ kk = .int .i64 (K : Int) ∧ Own wr (mid DRecord.tr 2 l k0 j) (.slice a l.length c) fp ∧ Chg fp w wr) (fun _ i wr => l.length - (intOf i).toNat)
  case atStart => exact ⟨0, k0, Nat.zero_le _, rfl, by simp [cntL], rfl, by rw [mid_zero]; exact h, Chg.refl _ _⟩
  case round =>
    obtain ⟨j, K, hj, rfl, hK, rfl, hown, hchg⟩ := hrel
    by_cases hlt : j < l.length
    · rw [mid_at _ _ _ _ _ hlt] at hown
      have hts : (mkL ((l.take j).flatMap DRecord.tr) k0).length = j * 2 := by rw [mkL_length, flat_length _ 2 DRecord.tr_len, List.length_take, Nat.min_eq_left hj]
      have hsum := cntL_take_succ DRecord.tr l j hlt
      have hle := cntL_flat_take_le DRecord.tr l (j + 1)
      have hcx := DRecord.cntL_tr l[j]
      have hkb : K + (1 + 1) ≤ 1099511627776 := by omega
      have hkp : 0 < K := by omega
      have hszj := sizL_get_le DRecord.tr l j hlt
      have HM := Lib.hid (mid_succ DRecord.tr 2 l k0 j hlt)
      have HS := Lib.hid hsum
      have HK := Lib.hid hK
      have HC := Lib.hid hcx
      have HT := Lib.hid hts
      clear hsum hcx hle hK hts
      generalize mkL ((l.take j).flatMap DRecord.tr) k0 = TS at *
      generalize (l.drop (j + 1)).flatMap DRecord.tr = US at *
      have hin' : In lo wr.heap.size fp := hin.mono (Nat.le_refl _) hchg.size
      have o0 : Own wr (.sl 2 (TS ++ ([.lit (.string l[j].key), .lit (.string l[j].value)] ++ US))) (.slice a l.length c) fp := hown
      clear hown
      obtain ⟨b, off, rfl, hbf⟩ := o0.someAddr
      have hbw := (hin' b hbf).2
      have hfz : ∀ i, wr.frozen? ⟨b, i, none⟩ = false := o0.free b hbf
      have z0 : wr.heap.size ≤ wr.heap.size := Nat.le_refl _
      obtain ⟨s0, _⟩ := o0.cellChunk 0 _ rfl (off + j * 2) (by rw [HT.out]; omega)
      obtain ⟨s1, _⟩ := o0.cellChunk 1 _ rfl (off + j * 2 + 1) (by rw [HT.out]; omega)
      have O0 := Lib.hid o0
      have C0 := Lib.hid hchg
      clear o0 hchg
      go_wp2_with fail
      refine (markText_int _ _ (by omega) (by omega)).mono ?_
      rintro e w1 ⟨rfl, hb1⟩
      obtain ⟨qa1, qb1, hbw1⟩ := bcellAt hb1 (b := b) (by first | omega | (simp only [size_setCell]; omega))
      have z1 : wr.heap.size ≤ w1.heap.size := by have := hb1.size; (try simp only [size_setCell] at this); omega
      have O1 := Lib.hid ((O0.out.below hin' (by first | omega | (simp only [size_setCell]; omega)) hb1).setChunk 0 _ rfl (off + j * 2) (by rw [HT.out]; omega) (.string (mtext (K))))
      have C1 := Lib.hid ((C0.out.trans (Chg.of_below hb1)).setCell (p := ⟨b, off + j * 2, none⟩) hbf (.string (mtext (K))))
      go_wp2_with fail
      refine (markText_int _ _ (by omega) (by omega)).mono ?_
      rintro e w2 ⟨rfl, hb2⟩
      obtain ⟨qa2, qb2, hbw2⟩ := bcellAt hb2 (b := b) (by first | omega | (simp only [size_setCell]; omega))
      have z2 : wr.heap.size ≤ w2.heap.size := by have := hb2.size; (try simp only [size_setCell] at this); omega
      have O2 := Lib.hid ((O1.out.below hin' (by first | omega | (simp only [size_setCell]; omega)) hb2).setChunk 1 _ rfl (off + j * 2 + 1) (by rw [HT.out]; omega) (.string (mtext (K + 1))))
      have C2 := Lib.hid ((C1.out.trans (Chg.of_below hb2)).setCell (p := ⟨b, off + j * 2 + 1, none⟩) hbf (.string (mtext (K + 1))))
      go_wp2
      go_roundw
      case rel =>
        refine ⟨j + 1, K + (1 + 1), by omega, by go_num, by have := HK.out; have := HS.out; have := HC.out; omega, by go_num, ?_, C2.out⟩
        rw [HM.out, ← HK.out, DRecord.mk_tr]
        exact O2.out
      case measure => simp [intOf]; omega
    · obtain rfl : j = l.length := by omega
      have HK := Lib.hid hK
      clear hK
      go_wp2
      go_ret
      rw [mid_end] at hown
      have e := HK.out
      rw [List.take_length] at e
      exact ⟨ret_int (by omega), hown, hchg⟩
theorem markI_RecordS (l : List DRecord) (v : Value) (fp : List Nat) (k lo : Nat) (K : Int) (w : World) (h : Own w (DRecord.sT l) v fp) (hin : In lo w.heap.size fp) (hs : siz (DRecord.sT l) ≤ 1099511627776) (hK : K = (k : Int)) (hk0 : k + cnt (DRecord.sT l) ≤ 1099511627776) (hk1 : 0 < k) :
    Calls Tryz.prog 26 #[v, .int .i64 K] w fun e w' => e = .returned (.int .i64 (K + (cnt (DRecord.sT l) : Int))) ∧ Own w' (mkT (DRecord.sT l) k) v fp ∧ Chg fp w w' := by
  subst hK
  refine (mark_RecordS l v fp k lo w h hin hs hk0 hk1).mono fun e w' ⟨he, h1, h2⟩ => ⟨?_, h1, h2⟩
  rw [he, Int.natCast_add]
set_option maxHeartbeats 4000000 in
set_option maxRecDepth 100000 in
theorem held_RecordS (l : List DRecord) (v : Value) (B k0 : Nat) (w : World) (h : Rd B w (mkT (DRecord.sT l) k0) v) (hB : B ≤ w.heap.size) (hs : siz (DRecord.sT l) ≤ 1099511627776) (hk0 : k0 + cnt (DRecord.sT l) ≤ 1099511627776) (hk1 : 0 < k0) :
    Calls Tryz.prog 28 #[v, .int .i64 k0] w fun e w' => e = .returned (.int .i64 ((k0 + cnt (DRecord.sT l) : Nat) : Int)) ∧ Below w.heap.size w w' := by
  obtain ⟨a, c, rfl, hnc, hcm, hcells⟩ := h.mkAt (k := 2) (g := DRecord.tr) (by decide) DRecord.tr_len
  clear h
  have hcl : cnt (DRecord.sT l) = cntL (l.flatMap DRecord.tr) := rfl
  have hsl : l.length ≤ 1099511627776 := by rw [DRecord.siz_s] at hs; omega
  rw [DRecord.siz_s] at hs
  have HCL := Lib.hid hcells
  clear hcells
  go_enter Tryz.func28, Tryz.ntmps28
  go_wp2
  go_loopw [1, 5] (fun kk i wr => ∃ (j K : Nat), j ≤ l.length ∧ i = .int .i64 j ∧ K = k0 + cntL ((l.take j).flatMap DRecord.tr) ∧ kk = .int .i64 (K : Int) ∧ Below w.heap.size w wr) (fun _ i wr => l.length - (intOf i).toNat)
  case atStart => exact ⟨0, k0, Nat.zero_le _, rfl, by simp [cntL], rfl, Below.refl _ _⟩
  case round =>
    obtain ⟨j, K, hj, rfl, hK, rfl, hb⟩ := hrel
    have HB0 := Lib.hid hb
    clear hb
    by_cases hlt : j < l.length
    · obtain ⟨b, off, ea, hbl, hat⟩ := HCL.out (by omega)
      subst ea
      have hsum := cntL_take_succ DRecord.tr l j hlt
      have hle := cntL_flat_take_le DRecord.tr l (j + 1)
      have hcx := DRecord.cntL_tr l[j]
      have hszj := sizL_get_le DRecord.tr l j hlt
      have hkp : 0 < K := by omega
      obtain ⟨u0, s0, ru0⟩ := hat j hlt 0 (.lit (.string (mtext (K)))) (by rw [← hK, DRecord.mk_tr]; rfl)
      obtain rfl := Rd.lit.1 ru0
      obtain ⟨u1, s1, ru1⟩ := hat j hlt 1 (.lit (.string (mtext (K + 1)))) (by rw [← hK, DRecord.mk_tr]; rfl)
      obtain rfl := Rd.lit.1 ru1
      rw [Nat.add_zero] at s0
      have HK := Lib.hid hK
      have HSU := Lib.hid hsum
      have HCX := Lib.hid hcx
      have HLE := Lib.hid hle
      have hkb : K + (1 + 1) ≤ 1099511627776 := by omega
      clear hat hK hsum hcx hle
      have i1 : (0 : Int) ≤ (j : Int) := by omega
      have i2 : (j : Int) < (l.length : Int) := by omega
      have yb0 : b < wr.heap.size := by have := HB0.out.size; omega
      have s0_0 := (bat HB0.out b _ (Nat.lt_of_lt_of_le hbl hB)).trans s0
      have s1_0 := (bat HB0.out b _ (Nat.lt_of_lt_of_le hbl hB)).trans s1
      have HM0 : Hid (∀ W : World, Calls Tryz.prog 56 #[.int .i64 ((K : Int))] W fun e w' => e = .returned (.string (mtext (K))) ∧ Below W.heap.size W w') := fun W => by
        have et : ((K : Int)).toNat = K := by omega
        rw [← et]; exact markText_int _ W (by omega) (by omega)
      have oB0 := overC (w0 := wr) yb0
      have hne0 : (!((mtext (K)).toList == (mtext (K)).toList)) = false := by simp
      go_wp2
      refine wp_region_over wr.heap.size wr (Below.refl _ _) (by kernel_rfl) (by kernel_rfl) ?_
      repeat (go_big_quiet_step (first | (go_at_call 56; exact over_left (Nat.le_refl _) (HM0.out _))))
      refine wpQuiet_nil ?_
      rintro _ ⟨X0, rfl⟩
      have hX0 := over_below wr.heap.size wr X0
      clear oB0 hne0
      clear s0_0 s1_0
      generalize over wr.heap.size wr X0 = w1 at *
      have HB1 := Lib.hid (HB0.out.trans (hX0.mono HB0.out.size))
      have yb1 : b < w1.heap.size := by have := hX0.size; omega
      clear hX0
      have s0_1 := (bat HB1.out b _ (Nat.lt_of_lt_of_le hbl hB)).trans s0
      have s1_1 := (bat HB1.out b _ (Nat.lt_of_lt_of_le hbl hB)).trans s1
      have HM1 : Hid (∀ W : World, Calls Tryz.prog 56 #[.int .i64 ((K : Int) + 1)] W fun e w' => e = .returned (.string (mtext (K + 1))) ∧ Below W.heap.size W w') := fun W => by
        have et : ((K : Int) + 1).toNat = K + 1 := by omega
        rw [← et]; exact markText_int _ W (by omega) (by omega)
      have oB1 := overC (w0 := w1) yb1
      have hne1 : (!((mtext (K + 1)).toList == (mtext (K + 1)).toList)) = false := by simp
      go_wp2
      refine wp_region_over w1.heap.size w1 (Below.refl _ _) (by kernel_rfl) (by kernel_rfl) ?_
      repeat (go_big_quiet_step (first | (go_at_call 56; exact over_left (Nat.le_refl _) (HM1.out _))))
      refine wpQuiet_nil ?_
      rintro _ ⟨X1, rfl⟩
      have hX1 := over_below w1.heap.size w1 X1
      clear oB1 hne1
      clear s0_1 s1_1
      generalize over w1.heap.size w1 X1 = w2 at *
      have HB2 := Lib.hid (HB1.out.trans (hX1.mono HB1.out.size))
      have yb2 : b < w2.heap.size := by have := hX1.size; omega
      clear hX1
      have s0_2 := (bat HB2.out b _ (Nat.lt_of_lt_of_le hbl hB)).trans s0
      have s1_2 := (bat HB2.out b _ (Nat.lt_of_lt_of_le hbl hB)).trans s1
      go_wp2
      go_roundw
      case rel => exact ⟨j + 1, K + cntL l[j].tr, by omega, by go_num, by rw [HSU.out, HK.out]; omega, by rw [HCX.out]; simp only [Int.natCast_add, Int.natCast_one, ← Int.add_assoc], HB2.out⟩
      case measure => simp [intOf]; omega
    · obtain rfl : j = l.length := by omega
      go_wp2
      go_ret
      rw [List.take_length] at hK
      exact ⟨ret_int (by rw [hcl, hK]), HB0.out⟩
theorem heldI_RecordS (l : List DRecord) (v : Value) (B k : Nat) (K : Int) (w : World) (h : Rd B w (mkT (DRecord.sT l) k) v) (hB : B ≤ w.heap.size) (hs : siz (DRecord.sT l) ≤ 1099511627776) (hK : K = (k : Int)) (hk0 : k + cnt (DRecord.sT l) ≤ 1099511627776) (hk1 : 0 < k) :
    Calls Tryz.prog 28 #[v, .int .i64 K] w fun e w' => e = .returned (.int .i64 (K + (cnt (DRecord.sT l) : Int))) ∧ Below w.heap.size w w' := by
  subst hK
  refine (held_RecordS l v B k w h hB hs hk0 hk1).mono fun e w' ⟨he, h1⟩ => ⟨?_, h1⟩
  rw [he, Int.natCast_add]
end Go.Proofs.YtjkpadfolkniaaaGreatDoor
