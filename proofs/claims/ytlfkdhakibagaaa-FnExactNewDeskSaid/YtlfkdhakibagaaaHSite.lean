/- Contracts of the laws' helpers over the type Site and slices of it. Conditions: bounded lengths. -/
import Derived.Test.YtlfkdhakibagaaaInts2
import Derived.Test.YtlfkdhakibagaaaTypes
import Derived.Test.YtlfkdhakibagaaaText
import Derived.Test.YtlfkdhakibagaaaOver
import Derived.Test.YtlfkdhakibagaaaHPoint
namespace Go.Proofs.Ytlfkdhakibagaaa
open Go.RowKit
set_option linter.unusedVariables false

set_option maxHeartbeats 2000000 in
theorem eq_Site (x : DSite) (w : World) :
    Calls Try.prog 62 #[.agg #[.string x.name, .string x.holder, .int .i64 x.place.x, .int .i64 x.place.y], .agg #[.string x.name, .string x.holder, .int .i64 x.place.x, .int .i64 x.place.y]] w fun e w' => e = .returned (.bool true) ∧ Below w.heap.size w w' := by
  go_enter Try.func62, Try.ntmps62
  go_wp2_with fail
  refine (eq_Point x.place _).mono ?_
  rintro e w1 ⟨rfl, hb1⟩
  obtain ⟨qa1, _, ya1⟩ := bcellAt hb1 (b := w.heap.size) (by first | omega | (simp; done) | (simp; omega))
  obtain ⟨qb1, _, yb1⟩ := bcellAt hb1 (b := w.heap.size + 1) (by first | omega | (simp; done) | (simp; omega))
  go_wp2
  go_ret
  refine ⟨rfl, ?_⟩
  repeat (first | exact Below.refl _ _ | (refine Below.alloc ?_ (by first | omega | (simp; done) | (simp; omega)) _) | (refine Below.trans ?_ (hb1.mono (by first | omega | (simp; done) | (simp; omega)))))
theorem DSite.sT_eq (l : List DSite) : DSite.sT l = .sl 4 (l.flatMap DSite.tr) := rfl
theorem DSite.siz_s (l : List DSite) : siz (DSite.sT l) = l.length + sizL (l.flatMap DSite.tr) := siz_flat DSite.tr 4 (by decide) DSite.tr_len l
theorem DSite.cnt_tr (x : DSite) : cntL x.tr = 4 := by simp only [DSite.tr, cntL, cnt, intT, strT]
set_option maxHeartbeats 2000000 in
set_option maxRecDepth 100000 in
theorem eq_SiteS (l : List DSite) (v v' : Value) (B : Nat) (w : World) (h : Rd B w (DSite.sT l) v) (h' : Rd B w (DSite.sT l) v') (hB : B ≤ w.heap.size) (hn : siz (DSite.sT l) ≤ 1099511627776) :
    Calls Try.prog 43 #[v, v'] w fun e w' => e = .returned (.bool true) ∧ Below w.heap.size w w' := by
  rw [DSite.siz_s] at hn
  have hnb : (l.length : Int) ≤ 1099511627776 := by omega
  obtain ⟨a, c, rfl, hnc, hcm, hcells⟩ := DSite.rd h
  obtain ⟨a', c', rfl, hnc', hcm', hcells'⟩ := DSite.rd h'
  clear h h'
  have hne : ((l.length : Int) != l.length) = false := by simp
  go_enter Try.func43, Try.ntmps43
  go_wp2
  clear hne
  go_loopw [5] (fun i wr => ∃ (k : Nat), k ≤ l.length ∧ i = .int .i64 k ∧ Below w.heap.size w wr) (fun i wr => l.length - (intOf i).toNat)
  case atStart => exact ⟨0, Nat.zero_le _, rfl, Below.refl _ _⟩
  case round =>
    obtain ⟨k, hk, rfl, hb⟩ := hrel
    by_cases hlt : k < l.length
    · obtain ⟨b, off, rfl, hbl, hat⟩ := hcells (by omega)
      obtain ⟨b', off', rfl, hbl', hat'⟩ := hcells' (by omega)
      obtain ⟨s0, s1, s2, s3⟩ := hat k hlt
      obtain ⟨sb0, sb1, sb2, sb3⟩ := hat' k hlt
      rw [← hb.cell (p := ⟨b, _, none⟩) (show b < w.heap.size by omega)] at s0 s1 s2 s3
      rw [← hb.cell (p := ⟨b', _, none⟩) (show b' < w.heap.size by omega)] at sb0 sb1 sb2 sb3
      have hB' : B ≤ wr.heap.size := by have := hb.size; omega
      have hsl := sizL_get_le DSite.tr l k hlt
      have i1 : (0 : Int) ≤ (k : Int) := by omega
      have i2 : (k : Int) < (l.length : Int) := by omega
      have HB := Lib.hid hb
      clear hcells hat hcells' hat' hb 
      go_wp2
      go_still_tail 8, (by kernel_rfl)
      change wpList _ _ _ _ _ wr.drew
      go_wp2_with (go_at_call 62; refine (eq_Site l[k]   _  ).mono ?_; rintro e w1 ⟨rfl, hb1⟩)
      go_roundw
      case rel => exact ⟨k + 1, by omega, by go_num, HB.out.drew.trans (hb1.mono HB.out.size)⟩
      case measure => simp [intOf]; omega
    · obtain rfl : k = l.length := by omega
      clear hcells hcells'
      go_wp2
      go_ret
      exact ⟨rfl, hb⟩
theorem DSite.mk_tr (x : DSite) (K : Nat) : mkL x.tr K = [.lit (.string (mtext (K))), .lit (.string (mtext (K + 1))), .lit (.int .i64 ((K : Int) + 1 + 1)), .lit (.int .i64 ((K : Int) + 1 + 1 + 1))] := rfl
theorem DSite.cntL_tr (x : DSite) : cntL x.tr = 1 + 1 + 1 + 1 := by rfl
set_option maxHeartbeats 4000000 in
set_option maxRecDepth 100000 in
theorem mark_SiteS (l : List DSite) (v : Value) (fp : List Nat) (k0 lo : Nat) (w : World) (h : Own w (DSite.sT l) v fp) (hin : In lo w.heap.size fp) (hs : siz (DSite.sT l) ≤ 1099511627776) (hk0 : k0 + cnt (DSite.sT l) ≤ 1099511627776) (hk1 : 0 < k0) :
    Calls Try.prog 51 #[v, .int .i64 k0] w fun e w' => e = .returned (.int .i64 ((k0 + cnt (DSite.sT l) : Nat) : Int)) ∧ Own w' (mkT (DSite.sT l) k0) v fp ∧ Chg fp w w' := by
  rw [DSite.siz_s] at hs
  obtain ⟨a, c, hv, hnc, hcm⟩ := h.form (k := 4) (g := DSite.tr) (by decide) DSite.tr_len
  subst hv
  rw [show cnt (DSite.sT l) = cntL (l.flatMap DSite.tr) from by rw [DSite.sT, cnt]] at hk0 ⊢
  have hnb : (l.length : Int) ≤ 1099511627776 := by omega
  go_enter Try.func51, Try.ntmps51
  go_wp2
  go_loopw [1, 5] (fun kk i wr => ∃ (j K : Nat), j ≤ l.length ∧ i = .int .i64 j ∧ K = k0 + cntL ((l.take j).flatMap DSite.tr) ∧ kk = .int .i64 (K : Int) ∧ Own wr (mid DSite.tr 4 l k0 j) (.slice a l.length c) fp ∧ Chg fp w wr) (fun _ i wr => l.length - (intOf i).toNat)
  case atStart => exact ⟨0, k0, Nat.zero_le _, rfl, by simp [cntL], rfl, by rw [mid_zero]; exact h, Chg.refl _ _⟩
  case round =>
    obtain ⟨j, K, hj, rfl, hK, rfl, hown, hchg⟩ := hrel
    by_cases hlt : j < l.length
    · rw [mid_at _ _ _ _ _ hlt] at hown
      have hts : (mkL ((l.take j).flatMap DSite.tr) k0).length = j * 4 := by rw [mkL_length, flat_length _ 4 DSite.tr_len, List.length_take, Nat.min_eq_left hj]
      have hsum := cntL_take_succ DSite.tr l j hlt
      have hle := cntL_flat_take_le DSite.tr l (j + 1)
      have hcx := DSite.cntL_tr l[j]
      have hkb : K + (1 + 1 + 1 + 1) ≤ 1099511627776 := by omega
      have hkp : 0 < K := by omega
      have hszj := sizL_get_le DSite.tr l j hlt
      have HM := Lib.hid (mid_succ DSite.tr 4 l k0 j hlt)
      have HS := Lib.hid hsum
      have HK := Lib.hid hK
      have HC := Lib.hid hcx
      have HT := Lib.hid hts
      clear hsum hcx hle hK hts
      generalize mkL ((l.take j).flatMap DSite.tr) k0 = TS at *
      generalize (l.drop (j + 1)).flatMap DSite.tr = US at *
      have hin' : In lo wr.heap.size fp := hin.mono (Nat.le_refl _) hchg.size
      have o0 : Own wr (.sl 4 (TS ++ ([.lit (.string l[j].name), .lit (.string l[j].holder), .lit (.int .i64 l[j].place.x), .lit (.int .i64 l[j].place.y)] ++ US))) (.slice a l.length c) fp := hown
      clear hown
      obtain ⟨b, off, rfl, hbf⟩ := o0.someAddr
      have hbw := (hin' b hbf).2
      have hfz : ∀ i, wr.frozen? ⟨b, i, none⟩ = false := o0.free b hbf
      have z0 : wr.heap.size ≤ wr.heap.size := Nat.le_refl _
      obtain ⟨s0, _⟩ := o0.cellChunk 0 _ rfl (off + j * 4) (by rw [HT.out]; omega)
      obtain ⟨s1, _⟩ := o0.cellChunk 1 _ rfl (off + j * 4 + 1) (by rw [HT.out]; omega)
      obtain ⟨s2, _⟩ := o0.cellChunk 2 _ rfl (off + j * 4 + 2) (by rw [HT.out]; omega)
      obtain ⟨s3, _⟩ := o0.cellChunk 3 _ rfl (off + j * 4 + 3) (by rw [HT.out]; omega)
      have O0 := Lib.hid o0
      have C0 := Lib.hid hchg
      clear o0 hchg
      go_wp2_with fail
      refine (markText_int _ _ (by omega) (by omega)).mono ?_
      rintro e w1 ⟨rfl, hb1⟩
      obtain ⟨qa1, qb1, hbw1⟩ := bcellAt hb1 (b := b) (by first | omega | (simp only [size_setCell]; omega))
      have z1 : wr.heap.size ≤ w1.heap.size := by have := hb1.size; (try simp only [size_setCell] at this); omega
      have O1 := Lib.hid ((O0.out.below hin' (by first | omega | (simp only [size_setCell]; omega)) hb1).setChunk 0 _ rfl (off + j * 4) (by rw [HT.out]; omega) (.string (mtext (K))))
      have C1 := Lib.hid ((C0.out.trans (Chg.of_below hb1)).setCell (p := ⟨b, off + j * 4, none⟩) hbf (.string (mtext (K))))
      go_wp2_with fail
      refine (markText_int _ _ (by omega) (by omega)).mono ?_
      rintro e w2 ⟨rfl, hb2⟩
      obtain ⟨qa2, qb2, hbw2⟩ := bcellAt hb2 (b := b) (by first | omega | (simp only [size_setCell]; omega))
      have z2 : wr.heap.size ≤ w2.heap.size := by have := hb2.size; (try simp only [size_setCell] at this); omega
      have O2 := Lib.hid ((O1.out.below hin' (by first | omega | (simp only [size_setCell]; omega)) hb2).setChunk 1 _ rfl (off + j * 4 + 1) (by rw [HT.out]; omega) (.string (mtext (K + 1))))
      have C2 := Lib.hid ((C1.out.trans (Chg.of_below hb2)).setCell (p := ⟨b, off + j * 4 + 1, none⟩) hbf (.string (mtext (K + 1))))
      have O3 := Lib.hid (O2.out.setChunk 2 _ rfl (off + j * 4 + 2) (by rw [HT.out]; omega) (.int .i64 ((K : Int) + 1 + 1)))
      have C3 := Lib.hid (C2.out.setCell (p := ⟨b, off + j * 4 + 2, none⟩) hbf (.int .i64 ((K : Int) + 1 + 1)))
      have O4 := Lib.hid (O3.out.setChunk 3 _ rfl (off + j * 4 + 3) (by rw [HT.out]; omega) (.int .i64 ((K : Int) + 1 + 1 + 1)))
      have C4 := Lib.hid (C3.out.setCell (p := ⟨b, off + j * 4 + 3, none⟩) hbf (.int .i64 ((K : Int) + 1 + 1 + 1)))
      go_wp2
      go_roundw
      case rel =>
        refine ⟨j + 1, K + (1 + 1 + 1 + 1), by omega, by go_num, by have := HK.out; have := HS.out; have := HC.out; omega, by go_num, ?_, C4.out⟩
        rw [HM.out, ← HK.out, DSite.mk_tr]
        exact O4.out
      case measure => simp [intOf]; omega
    · obtain rfl : j = l.length := by omega
      have HK := Lib.hid hK
      clear hK
      go_wp2
      go_ret
      rw [mid_end] at hown
      have e := HK.out
      rw [List.take_length] at e
      exact ⟨ret_int (by omega), hown, hchg⟩
theorem markI_SiteS (l : List DSite) (v : Value) (fp : List Nat) (k lo : Nat) (K : Int) (w : World) (h : Own w (DSite.sT l) v fp) (hin : In lo w.heap.size fp) (hs : siz (DSite.sT l) ≤ 1099511627776) (hK : K = (k : Int)) (hk0 : k + cnt (DSite.sT l) ≤ 1099511627776) (hk1 : 0 < k) :
    Calls Try.prog 51 #[v, .int .i64 K] w fun e w' => e = .returned (.int .i64 (K + (cnt (DSite.sT l) : Int))) ∧ Own w' (mkT (DSite.sT l) k) v fp ∧ Chg fp w w' := by
  subst hK
  refine (mark_SiteS l v fp k lo w h hin hs hk0 hk1).mono fun e w' ⟨he, h1, h2⟩ => ⟨?_, h1, h2⟩
  rw [he, Int.natCast_add]
set_option maxHeartbeats 4000000 in
set_option maxRecDepth 100000 in
theorem held_SiteS (l : List DSite) (v : Value) (B k0 : Nat) (w : World) (h : Rd B w (mkT (DSite.sT l) k0) v) (hB : B ≤ w.heap.size) (hs : siz (DSite.sT l) ≤ 1099511627776) (hk0 : k0 + cnt (DSite.sT l) ≤ 1099511627776) (hk1 : 0 < k0) :
    Calls Try.prog 56 #[v, .int .i64 k0] w fun e w' => e = .returned (.int .i64 ((k0 + cnt (DSite.sT l) : Nat) : Int)) ∧ Below w.heap.size w w' := by
  obtain ⟨a, c, rfl, hnc, hcm, hcells⟩ := h.mkAt (k := 4) (g := DSite.tr) (by decide) DSite.tr_len
  clear h
  have hcl : cnt (DSite.sT l) = cntL (l.flatMap DSite.tr) := rfl
  have hsl : l.length ≤ 1099511627776 := by rw [DSite.siz_s] at hs; omega
  rw [DSite.siz_s] at hs
  have HCL := Lib.hid hcells
  clear hcells
  go_enter Try.func56, Try.ntmps56
  go_wp2
  go_loopw [1, 5] (fun kk i wr => ∃ (j K : Nat), j ≤ l.length ∧ i = .int .i64 j ∧ K = k0 + cntL ((l.take j).flatMap DSite.tr) ∧ kk = .int .i64 (K : Int) ∧ Below w.heap.size w wr) (fun _ i wr => l.length - (intOf i).toNat)
  case atStart => exact ⟨0, k0, Nat.zero_le _, rfl, by simp [cntL], rfl, Below.refl _ _⟩
  case round =>
    obtain ⟨j, K, hj, rfl, hK, rfl, hb⟩ := hrel
    have HB0 := Lib.hid hb
    clear hb
    by_cases hlt : j < l.length
    · obtain ⟨b, off, ea, hbl, hat⟩ := HCL.out (by omega)
      subst ea
      have hsum := cntL_take_succ DSite.tr l j hlt
      have hle := cntL_flat_take_le DSite.tr l (j + 1)
      have hcx := DSite.cntL_tr l[j]
      have hszj := sizL_get_le DSite.tr l j hlt
      have hkp : 0 < K := by omega
      obtain ⟨u0, s0, ru0⟩ := hat j hlt 0 (.lit (.string (mtext (K)))) (by rw [← hK, DSite.mk_tr]; rfl)
      obtain rfl := Rd.lit.1 ru0
      obtain ⟨u1, s1, ru1⟩ := hat j hlt 1 (.lit (.string (mtext (K + 1)))) (by rw [← hK, DSite.mk_tr]; rfl)
      obtain rfl := Rd.lit.1 ru1
      obtain ⟨u2, s2, ru2⟩ := hat j hlt 2 (.lit (.int .i64 ((K : Int) + 1 + 1))) (by rw [← hK, DSite.mk_tr]; rfl)
      obtain rfl := Rd.lit.1 ru2
      obtain ⟨u3, s3, ru3⟩ := hat j hlt 3 (.lit (.int .i64 ((K : Int) + 1 + 1 + 1))) (by rw [← hK, DSite.mk_tr]; rfl)
      obtain rfl := Rd.lit.1 ru3
      rw [Nat.add_zero] at s0
      have HK := Lib.hid hK
      have HSU := Lib.hid hsum
      have HCX := Lib.hid hcx
      have HLE := Lib.hid hle
      have hkb : K + (1 + 1 + 1 + 1) ≤ 1099511627776 := by omega
      clear hat hK hsum hcx hle
      have i1 : (0 : Int) ≤ (j : Int) := by omega
      have i2 : (j : Int) < (l.length : Int) := by omega
      have yb0 : b < wr.heap.size := by have := HB0.out.size; omega
      have s0_0 := (bat HB0.out b _ (Nat.lt_of_lt_of_le hbl hB)).trans s0
      have s1_0 := (bat HB0.out b _ (Nat.lt_of_lt_of_le hbl hB)).trans s1
      have s2_0 := (bat HB0.out b _ (Nat.lt_of_lt_of_le hbl hB)).trans s2
      have s3_0 := (bat HB0.out b _ (Nat.lt_of_lt_of_le hbl hB)).trans s3
      have HM0 : Hid (∀ W : World, Calls Try.prog 34 #[.int .i64 ((K : Int))] W fun e w' => e = .returned (.string (mtext (K))) ∧ Below W.heap.size W w') := fun W => by
        have et : ((K : Int)).toNat = K := by omega
        rw [← et]; exact markText_int _ W (by omega) (by omega)
      have oB0 := overC (w0 := wr) yb0
      have hne0 : (!((mtext (K)).toList == (mtext (K)).toList)) = false := by simp
      go_wp2
      refine wp_region_over wr.heap.size wr (Below.refl _ _) (by kernel_rfl) (by kernel_rfl) ?_
      repeat (go_big_quiet_step (first | (go_at_call 34; exact over_left (Nat.le_refl _) (HM0.out _))))
      refine wpQuiet_nil ?_
      rintro _ ⟨X0, rfl⟩
      have hX0 := over_below wr.heap.size wr X0
      clear oB0 hne0
      clear s0_0 s1_0 s2_0 s3_0
      generalize over wr.heap.size wr X0 = w1 at *
      have HB1 := Lib.hid (HB0.out.trans (hX0.mono HB0.out.size))
      have yb1 : b < w1.heap.size := by have := hX0.size; omega
      clear hX0
      have s0_1 := (bat HB1.out b _ (Nat.lt_of_lt_of_le hbl hB)).trans s0
      have s1_1 := (bat HB1.out b _ (Nat.lt_of_lt_of_le hbl hB)).trans s1
      have s2_1 := (bat HB1.out b _ (Nat.lt_of_lt_of_le hbl hB)).trans s2
      have s3_1 := (bat HB1.out b _ (Nat.lt_of_lt_of_le hbl hB)).trans s3
      have HM1 : Hid (∀ W : World, Calls Try.prog 34 #[.int .i64 ((K : Int) + 1)] W fun e w' => e = .returned (.string (mtext (K + 1))) ∧ Below W.heap.size W w') := fun W => by
        have et : ((K : Int) + 1).toNat = K + 1 := by omega
        rw [← et]; exact markText_int _ W (by omega) (by omega)
      have oB1 := overC (w0 := w1) yb1
      have hne1 : (!((mtext (K + 1)).toList == (mtext (K + 1)).toList)) = false := by simp
      go_wp2
      refine wp_region_over w1.heap.size w1 (Below.refl _ _) (by kernel_rfl) (by kernel_rfl) ?_
      repeat (go_big_quiet_step (first | (go_at_call 34; exact over_left (Nat.le_refl _) (HM1.out _))))
      refine wpQuiet_nil ?_
      rintro _ ⟨X1, rfl⟩
      have hX1 := over_below w1.heap.size w1 X1
      clear oB1 hne1
      clear s0_1 s1_1 s2_1 s3_1
      generalize over w1.heap.size w1 X1 = w2 at *
      have HB2 := Lib.hid (HB1.out.trans (hX1.mono HB1.out.size))
      have yb2 : b < w2.heap.size := by have := hX1.size; omega
      clear hX1
      have s0_2 := (bat HB2.out b _ (Nat.lt_of_lt_of_le hbl hB)).trans s0
      have s1_2 := (bat HB2.out b _ (Nat.lt_of_lt_of_le hbl hB)).trans s1
      have s2_2 := (bat HB2.out b _ (Nat.lt_of_lt_of_le hbl hB)).trans s2
      have s3_2 := (bat HB2.out b _ (Nat.lt_of_lt_of_le hbl hB)).trans s3
      go_wp2
      go_roundw
      case rel => exact ⟨j + 1, K + cntL l[j].tr, by omega, by go_num, by rw [HSU.out, HK.out]; omega, by rw [HCX.out]; simp only [Int.natCast_add, Int.natCast_one, ← Int.add_assoc], HB2.out⟩
      case measure => simp [intOf]; omega
    · obtain rfl : j = l.length := by omega
      go_wp2
      go_ret
      rw [List.take_length] at hK
      exact ⟨ret_int (by rw [hcl, hK]), HB0.out⟩
theorem heldI_SiteS (l : List DSite) (v : Value) (B k : Nat) (K : Int) (w : World) (h : Rd B w (mkT (DSite.sT l) k) v) (hB : B ≤ w.heap.size) (hs : siz (DSite.sT l) ≤ 1099511627776) (hK : K = (k : Int)) (hk0 : k + cnt (DSite.sT l) ≤ 1099511627776) (hk1 : 0 < k) :
    Calls Try.prog 56 #[v, .int .i64 K] w fun e w' => e = .returned (.int .i64 (K + (cnt (DSite.sT l) : Int))) ∧ Below w.heap.size w w' := by
  subst hK
  refine (held_SiteS l v B k w h hB hs hk0 hk1).mono fun e w' ⟨he, h1⟩ => ⟨?_, h1⟩
  rw [he, Int.natCast_add]
end Go.Proofs.Ytlfkdhakibagaaa
