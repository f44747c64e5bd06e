/- Contracts of the laws' helpers over the type Sample and slices of it. Conditions: bounded lengths. -/
import Derived.Test.YtjgolknofmnppaaDoorInts2
import Derived.Test.YtjgolknofmnppaaDoorTypes
import Derived.Test.YtjgolknofmnppaaDoorOver
namespace Go.Proofs.YtjgolknofmnppaaDoor
open Go.RowKit
set_option linter.unusedVariables false

theorem eq_Sample (x : DSample) (w : World) :
    Calls Tryd.prog 28 #[.agg #[.int .i64 x.distance, .int .i64 x.level], .agg #[.int .i64 x.distance, .int .i64 x.level]] w fun e w' => e = .returned (.bool true) ∧ Below w.heap.size w w' := by
  go_enter Tryd.func28, Tryd.ntmps28
  go_wp2
  go_ret
  exact ⟨rfl, ((Below.refl _ _).alloc (Nat.le_refl _) _).alloc (by simp) _⟩
theorem DSample.sT_eq (l : List DSample) : DSample.sT l = .sl 2 (l.flatMap DSample.tr) := rfl
theorem DSample.siz_s (l : List DSample) : siz (DSample.sT l) = l.length + sizL (l.flatMap DSample.tr) := siz_flat DSample.tr 2 (by decide) DSample.tr_len l
theorem DSample.cnt_tr (x : DSample) : cntL x.tr = 2 := by simp only [DSample.tr, cntL, cnt, intT]
set_option maxHeartbeats 2000000 in
set_option maxRecDepth 100000 in
theorem eq_SampleS (l : List DSample) (v v' : Value) (B : Nat) (w : World) (h : Rd B w (DSample.sT l) v) (h' : Rd B w (DSample.sT l) v') (hB : B ≤ w.heap.size) (hn : siz (DSample.sT l) ≤ 1099511627776) :
    Calls Tryd.prog 9 #[v, v'] w fun e w' => e = .returned (.bool true) ∧ Below w.heap.size w w' := by
  rw [DSample.siz_s] at hn
  have hnb : (l.length : Int) ≤ 1099511627776 := by omega
  obtain ⟨a, c, rfl, hnc, hcm, hcells⟩ := DSample.rd h
  obtain ⟨a', c', rfl, hnc', hcm', hcells'⟩ := DSample.rd h'
  clear h h'
  have hne : ((l.length : Int) != l.length) = false := by simp
  go_enter Tryd.func9, Tryd.ntmps9
  go_wp2
  clear hne
  go_loopw [5] (fun i wr => ∃ (k : Nat), k ≤ l.length ∧ i = .int .i64 k ∧ Below w.heap.size w wr) (fun i wr => l.length - (intOf i).toNat)
  case atStart => exact ⟨0, Nat.zero_le _, rfl, Below.refl _ _⟩
  case round =>
    obtain ⟨k, hk, rfl, hb⟩ := hrel
    by_cases hlt : k < l.length
    · obtain ⟨b, off, rfl, hbl, hat⟩ := hcells (by omega)
      obtain ⟨b', off', rfl, hbl', hat'⟩ := hcells' (by omega)
      obtain ⟨s0, s1⟩ := hat k hlt
      obtain ⟨sb0, sb1⟩ := hat' k hlt
      rw [← hb.cell (p := ⟨b, _, none⟩) (show b < w.heap.size by omega)] at s0 s1
      rw [← hb.cell (p := ⟨b', _, none⟩) (show b' < w.heap.size by omega)] at sb0 sb1
      have hB' : B ≤ wr.heap.size := by have := hb.size; omega
      have hsl := sizL_get_le DSample.tr l k hlt
      have i1 : (0 : Int) ≤ (k : Int) := by omega
      have i2 : (k : Int) < (l.length : Int) := by omega
      have HB := Lib.hid hb
      clear hcells hat hcells' hat' hb 
      go_wp2
      go_still_tail 8, (by kernel_rfl)
      change wpList _ _ _ _ _ wr.drew
      go_wp2_with (go_at_call 28; refine (eq_Sample l[k]   _  ).mono ?_; rintro e w1 ⟨rfl, hb1⟩)
      go_roundw
      case rel => exact ⟨k + 1, by omega, by go_num, HB.out.drew.trans (hb1.mono HB.out.size)⟩
      case measure => simp [intOf]; omega
    · obtain rfl : k = l.length := by omega
      clear hcells hcells'
      go_wp2
      go_ret
      exact ⟨rfl, hb⟩
theorem DSample.mk_tr (x : DSample) (K : Nat) : mkL x.tr K = [.lit (.int .i64 ((K : Int))), .lit (.int .i64 ((K : Int) + 1))] := rfl
theorem DSample.cntL_tr (x : DSample) : cntL x.tr = 1 + 1 := by rfl
set_option maxHeartbeats 4000000 in
set_option maxRecDepth 100000 in
theorem mark_SampleS (l : List DSample) (v : Value) (fp : List Nat) (k0 lo : Nat) (w : World) (h : Own w (DSample.sT l) v fp) (hin : In lo w.heap.size fp) (hs : siz (DSample.sT l) ≤ 1099511627776) (hk0 : k0 + cnt (DSample.sT l) ≤ 1099511627776) (hk1 : 0 < k0) :
    Calls Tryd.prog 10 #[v, .int .i64 k0] w fun e w' => e = .returned (.int .i64 ((k0 + cnt (DSample.sT l) : Nat) : Int)) ∧ Own w' (mkT (DSample.sT l) k0) v fp ∧ Chg fp w w' := by
  rw [DSample.siz_s] at hs
  obtain ⟨a, c, hv, hnc, hcm⟩ := h.form (k := 2) (g := DSample.tr) (by decide) DSample.tr_len
  subst hv
  rw [show cnt (DSample.sT l) = cntL (l.flatMap DSample.tr) from by rw [DSample.sT, cnt]] at hk0 ⊢
  have hnb : (l.length : Int) ≤ 1099511627776 := by omega
  go_enter Tryd.func10, Tryd.ntmps10
  go_wp2
  go_loopw [1, 5] (fun kk i wr => ∃ (j K : Nat), j ≤ l.length ∧ i = .int .i64 j ∧ K = k0 + cntL ((l.take j).flatMap DSample.tr) ∧ kk = .int .i64 (K : Int) ∧ Own wr (mid DSample.tr 2 l k0 j) (.slice a l.length c) fp ∧ Chg fp w wr) (fun _ i wr => l.length - (intOf i).toNat)
  case atStart => exact ⟨0, k0, Nat.zero_le _, rfl, by simp [cntL], rfl, by rw [mid_zero]; exact h, Chg.refl _ _⟩
  case round =>
    obtain ⟨j, K, hj, rfl, hK, rfl, hown, hchg⟩ := hrel
    by_cases hlt : j < l.length
    · rw [mid_at _ _ _ _ _ hlt] at hown
      have hts : (mkL ((l.take j).flatMap DSample.tr) k0).length = j * 2 := by rw [mkL_length, flat_length _ 2 DSample.tr_len, List.length_take, Nat.min_eq_left hj]
      have hsum := cntL_take_succ DSample.tr l j hlt
      have hle := cntL_flat_take_le DSample.tr l (j + 1)
      have hcx := DSample.cntL_tr l[j]
      have hkb : K + (1 + 1) ≤ 1099511627776 := by omega
      have hkp : 0 < K := by omega
      have hszj := sizL_get_le DSample.tr l j hlt
      have HM := Lib.hid (mid_succ DSample.tr 2 l k0 j hlt)
      have HS := Lib.hid hsum
      have HK := Lib.hid hK
      have HC := Lib.hid hcx
      have HT := Lib.hid hts
      clear hsum hcx hle hK hts
      generalize mkL ((l.take j).flatMap DSample.tr) k0 = TS at *
      generalize (l.drop (j + 1)).flatMap DSample.tr = US at *
      have hin' : In lo wr.heap.size fp := hin.mono (Nat.le_refl _) hchg.size
      have o0 : Own wr (.sl 2 (TS ++ ([.lit (.int .i64 l[j].distance), .lit (.int .i64 l[j].level)] ++ US))) (.slice a l.length c) fp := hown
      clear hown
      obtain ⟨b, off, rfl, hbf⟩ := o0.someAddr
      have hbw := (hin' b hbf).2
      have hfz : ∀ i, wr.frozen? ⟨b, i, none⟩ = false := o0.free b hbf
      have z0 : wr.heap.size ≤ wr.heap.size := Nat.le_refl _
      obtain ⟨s0, _⟩ := o0.cellChunk 0 _ rfl (off + j * 2) (by rw [HT.out]; omega)
      obtain ⟨s1, _⟩ := o0.cellChunk 1 _ rfl (off + j * 2 + 1) (by rw [HT.out]; omega)
      have O0 := Lib.hid o0
      have C0 := Lib.hid hchg
      clear o0 hchg
      have O1 := Lib.hid (O0.out.setChunk 0 _ rfl (off + j * 2) (by rw [HT.out]; omega) (.int .i64 ((K : Int))))
      have C1 := Lib.hid (C0.out.setCell (p := ⟨b, off + j * 2, none⟩) hbf (.int .i64 ((K : Int))))
      have O2 := Lib.hid (O1.out.setChunk 1 _ rfl (off + j * 2 + 1) (by rw [HT.out]; omega) (.int .i64 ((K : Int) + 1)))
      have C2 := Lib.hid (C1.out.setCell (p := ⟨b, off + j * 2 + 1, none⟩) hbf (.int .i64 ((K : Int) + 1)))
      go_wp2
      go_roundw
      case rel =>
        refine ⟨j + 1, K + (1 + 1), by omega, by go_num, by have := HK.out; have := HS.out; have := HC.out; omega, by go_num, ?_, C2.out⟩
        rw [HM.out, ← HK.out, DSample.mk_tr]
        exact O2.out
      case measure => simp [intOf]; omega
    · obtain rfl : j = l.length := by omega
      have HK := Lib.hid hK
      clear hK
      go_wp2
      go_ret
      rw [mid_end] at hown
      have e := HK.out
      rw [List.take_length] at e
      exact ⟨ret_int (by omega), hown, hchg⟩
theorem markI_SampleS (l : List DSample) (v : Value) (fp : List Nat) (k lo : Nat) (K : Int) (w : World) (h : Own w (DSample.sT l) v fp) (hin : In lo w.heap.size fp) (hs : siz (DSample.sT l) ≤ 1099511627776) (hK : K = (k : Int)) (hk0 : k + cnt (DSample.sT l) ≤ 1099511627776) (hk1 : 0 < k) :
    Calls Tryd.prog 10 #[v, .int .i64 K] w fun e w' => e = .returned (.int .i64 (K + (cnt (DSample.sT l) : Int))) ∧ Own w' (mkT (DSample.sT l) k) v fp ∧ Chg fp w w' := by
  subst hK
  refine (mark_SampleS l v fp k lo w h hin hs hk0 hk1).mono fun e w' ⟨he, h1, h2⟩ => ⟨?_, h1, h2⟩
  rw [he, Int.natCast_add]
set_option maxHeartbeats 4000000 in
set_option maxRecDepth 100000 in
theorem held_SampleS (l : List DSample) (v : Value) (B k0 : Nat) (w : World) (h : Rd B w (mkT (DSample.sT l) k0) v) (hB : B ≤ w.heap.size) (hs : siz (DSample.sT l) ≤ 1099511627776) (hk0 : k0 + cnt (DSample.sT l) ≤ 1099511627776) (hk1 : 0 < k0) :
    Calls Tryd.prog 11 #[v, .int .i64 k0] w fun e w' => e = .returned (.int .i64 ((k0 + cnt (DSample.sT l) : Nat) : Int)) ∧ Below w.heap.size w w' := by
  obtain ⟨a, c, rfl, hnc, hcm, hcells⟩ := h.mkAt (k := 2) (g := DSample.tr) (by decide) DSample.tr_len
  clear h
  have hcl : cnt (DSample.sT l) = cntL (l.flatMap DSample.tr) := rfl
  have hsl : l.length ≤ 1099511627776 := by rw [DSample.siz_s] at hs; omega
  rw [DSample.siz_s] at hs
  have HCL := Lib.hid hcells
  clear hcells
  go_enter Tryd.func11, Tryd.ntmps11
  go_wp2
  go_loopw [1, 5] (fun kk i wr => ∃ (j K : Nat), j ≤ l.length ∧ i = .int .i64 j ∧ K = k0 + cntL ((l.take j).flatMap DSample.tr) ∧ kk = .int .i64 (K : Int) ∧ Below w.heap.size w wr) (fun _ i wr => l.length - (intOf i).toNat)
  case atStart => exact ⟨0, k0, Nat.zero_le _, rfl, by simp [cntL], rfl, Below.refl _ _⟩
  case round =>
    obtain ⟨j, K, hj, rfl, hK, rfl, hb⟩ := hrel
    have HB0 := Lib.hid hb
    clear hb
    by_cases hlt : j < l.length
    · obtain ⟨b, off, ea, hbl, hat⟩ := HCL.out (by omega)
      subst ea
      have hsum := cntL_take_succ DSample.tr l j hlt
      have hle := cntL_flat_take_le DSample.tr l (j + 1)
      have hcx := DSample.cntL_tr l[j]
      have hszj := sizL_get_le DSample.tr l j hlt
      have hkp : 0 < K := by omega
      obtain ⟨u0, s0, ru0⟩ := hat j hlt 0 (.lit (.int .i64 ((K : Int)))) (by rw [← hK, DSample.mk_tr]; rfl)
      obtain rfl := Rd.lit.1 ru0
      obtain ⟨u1, s1, ru1⟩ := hat j hlt 1 (.lit (.int .i64 ((K : Int) + 1))) (by rw [← hK, DSample.mk_tr]; rfl)
      obtain rfl := Rd.lit.1 ru1
      rw [Nat.add_zero] at s0
      have HK := Lib.hid hK
      have HSU := Lib.hid hsum
      have HCX := Lib.hid hcx
      have HLE := Lib.hid hle
      have hkb : K + (1 + 1) ≤ 1099511627776 := by omega
      clear hat hK hsum hcx hle
      have i1 : (0 : Int) ≤ (j : Int) := by omega
      have i2 : (j : Int) < (l.length : Int) := by omega
      have yb0 : b < wr.heap.size := by have := HB0.out.size; omega
      have s0_0 := (bat HB0.out b _ (Nat.lt_of_lt_of_le hbl hB)).trans s0
      have s1_0 := (bat HB0.out b _ (Nat.lt_of_lt_of_le hbl hB)).trans s1
      go_wp2
      go_roundw
      case rel => exact ⟨j + 1, K + cntL l[j].tr, by omega, by go_num, by rw [HSU.out, HK.out]; omega, by rw [HCX.out]; simp only [Int.natCast_add, Int.natCast_one, ← Int.add_assoc], HB0.out⟩
      case measure => simp [intOf]; omega
    · obtain rfl : j = l.length := by omega
      go_wp2
      go_ret
      rw [List.take_length] at hK
      exact ⟨ret_int (by rw [hcl, hK]), HB0.out⟩
theorem heldI_SampleS (l : List DSample) (v : Value) (B k : Nat) (K : Int) (w : World) (h : Rd B w (mkT (DSample.sT l) k) v) (hB : B ≤ w.heap.size) (hs : siz (DSample.sT l) ≤ 1099511627776) (hK : K = (k : Int)) (hk0 : k + cnt (DSample.sT l) ≤ 1099511627776) (hk1 : 0 < k) :
    Calls Tryd.prog 11 #[v, .int .i64 K] w fun e w' => e = .returned (.int .i64 (K + (cnt (DSample.sT l) : Int))) ∧ Below w.heap.size w w' := by
  subst hK
  refine (held_SampleS l v B k w h hB hs hk0 hk1).mono fun e w' ⟨he, h1⟩ => ⟨?_, h1⟩
  rw [he, Int.natCast_add]
end Go.Proofs.YtjgolknofmnppaaDoor
