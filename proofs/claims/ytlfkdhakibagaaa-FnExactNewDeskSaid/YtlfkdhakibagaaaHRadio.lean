/- Contracts of the laws' helpers over the type Radio and slices of it. Conditions: bounded lengths. -/
import Derived.Test.YtlfkdhakibagaaaInts2
import Derived.Test.YtlfkdhakibagaaaTypes
import Derived.Test.YtlfkdhakibagaaaText
import Derived.Test.YtlfkdhakibagaaaOver
import Derived.Test.YtlfkdhakibagaaaHMode
namespace Go.Proofs.Ytlfkdhakibagaaa
open Go.RowKit
set_option linter.unusedVariables false

theorem DRadio.siz_tr (x : DRadio) : sizL x.tr = x.name.size + siz (DMode.sT x.modes) := by
  simp only [DRadio.tr, sizL, siz, intT, strT]
  omega
set_option maxHeartbeats 4000000 in
set_option maxRecDepth 100000 in
theorem eq_Radio (x : DRadio) (v5 u5 : Value) (B : Nat) (w : World) (h5 : Rd B w (DMode.sT x.modes) v5) (g5 : Rd B w (DMode.sT x.modes) u5) (hB : B ≤ w.heap.size) (hn : sizL x.tr ≤ 1099511627776) :
    Calls Try.prog 65 #[.agg #[.string x.name, .int .i64 x.power, .int .i64 x.feeder, .int .i64 x.noise, .int .i64 x.width, v5], .agg #[.string x.name, .int .i64 x.power, .int .i64 x.feeder, .int .i64 x.noise, .int .i64 x.width, u5]] w fun e w' => e = .returned (.bool true) ∧ Below w.heap.size w w' := by
  have hsum := DRadio.siz_tr x
  have b0 : Below w.heap.size w ((w.alloc (.cells #[.string x.name, .int .i64 x.power, .int .i64 x.feeder, .int .i64 x.noise, .int .i64 x.width, v5] 116)).alloc (.cells #[.string x.name, .int .i64 x.power, .int .i64 x.feeder, .int .i64 x.noise, .int .i64 x.width, u5] 116)) := ((Below.refl _ _).alloc (Nat.le_refl _) _).alloc (by simp) _
  have B0 := Lib.hid b0
  have y0 : w.heap.size + 2 ≤ ((w.alloc (.cells #[.string x.name, .int .i64 x.power, .int .i64 x.feeder, .int .i64 x.noise, .int .i64 x.width, v5] 116)).alloc (.cells #[.string x.name, .int .i64 x.power, .int .i64 x.feeder, .int .i64 x.noise, .int .i64 x.width, u5] 116)).heap.size := by first | (simp; done) | (simp; omega)
  clear b0
  go_enter Try.func65, Try.ntmps65
  go_wp2_with fail
  refine (eq_ModeS x.modes v5 u5 B _ (h5.below (B0.out.mono hB)) (g5.below (B0.out.mono hB)) (by omega) (by omega)).mono ?_
  rintro e w1 ⟨rfl, hb1⟩
  obtain ⟨qa1, _, ya1⟩ := bcellAt hb1 (b := w.heap.size) (by omega)
  obtain ⟨qb1, _, yb1⟩ := bcellAt hb1 (b := w.heap.size + 1) (by omega)
  have y1 : w.heap.size + 2 ≤ w1.heap.size := by have := hb1.size; omega
  have B1 := Lib.hid (B0.out.trans (hb1.mono (by omega)))
  clear hb1
  go_wp2
  go_ret
  exact ⟨rfl, B1.out⟩
theorem DRadio.cnt_eq (x : DRadio) : cnt (DMode.sT x.modes) = cnt (DMode.sT x.modes) := rfl
theorem DRadio.sT_eq (l : List DRadio) : DRadio.sT l = .sl 6 (l.flatMap DRadio.tr) := rfl
theorem DRadio.siz_s (l : List DRadio) : siz (DRadio.sT l) = l.length + sizL (l.flatMap DRadio.tr) := siz_flat DRadio.tr 6 (by decide) DRadio.tr_len l
set_option maxHeartbeats 2000000 in
set_option maxRecDepth 100000 in
theorem eq_RadioS (l : List DRadio) (v v' : Value) (B : Nat) (w : World) (h : Rd B w (DRadio.sT l) v) (h' : Rd B w (DRadio.sT l) v') (hB : B ≤ w.heap.size) (hn : siz (DRadio.sT l) ≤ 1099511627776) :
    Calls Try.prog 46 #[v, v'] w fun e w' => e = .returned (.bool true) ∧ Below w.heap.size w w' := by
  rw [DRadio.siz_s] at hn
  have hnb : (l.length : Int) ≤ 1099511627776 := by omega
  obtain ⟨a, c, rfl, hnc, hcm, hcells⟩ := DRadio.rd h
  obtain ⟨a', c', rfl, hnc', hcm', hcells'⟩ := DRadio.rd h'
  clear h h'
  have hne : ((l.length : Int) != l.length) = false := by simp
  go_enter Try.func46, Try.ntmps46
  go_wp2
  clear hne
  go_loopw [5] (fun i wr => ∃ (k : Nat), k ≤ l.length ∧ i = .int .i64 k ∧ Below w.heap.size w wr) (fun i wr => l.length - (intOf i).toNat)
  case atStart => exact ⟨0, Nat.zero_le _, rfl, Below.refl _ _⟩
  case round =>
    obtain ⟨k, hk, rfl, hb⟩ := hrel
    by_cases hlt : k < l.length
    · obtain ⟨b, off, rfl, hbl, hat⟩ := hcells (by omega)
      obtain ⟨b', off', rfl, hbl', hat'⟩ := hcells' (by omega)
      obtain ⟨s0, s1, s2, s3, s4, ⟨u5, s5, r5⟩⟩ := hat k hlt
      obtain ⟨sb0, sb1, sb2, sb3, sb4, ⟨ub5, sb5, rb5⟩⟩ := hat' k hlt
      rw [← hb.cell (p := ⟨b, _, none⟩) (show b < w.heap.size by omega)] at s0 s1 s2 s3 s4 s5
      rw [← hb.cell (p := ⟨b', _, none⟩) (show b' < w.heap.size by omega)] at sb0 sb1 sb2 sb3 sb4 sb5
      have t5 : Rd B wr.drew (DMode.sT l[k].modes) u5 := (r5.below (hb.mono hB)).drew
      have tb5 : Rd B wr.drew (DMode.sT l[k].modes) ub5 := (rb5.below (hb.mono hB)).drew
      have hB' : B ≤ wr.heap.size := by have := hb.size; omega
      have hsl := sizL_get_le DRadio.tr l k hlt
      have i1 : (0 : Int) ≤ (k : Int) := by omega
      have i2 : (k : Int) < (l.length : Int) := by omega
      have HB := Lib.hid hb
      clear hcells hat hcells' hat' hb r5 rb5
      go_wp2
      go_still_tail 8, (by kernel_rfl)
      change wpList _ _ _ _ _ wr.drew
      go_wp2_with (go_at_call 65; refine (eq_Radio l[k] u5 ub5 B _ t5 tb5 hB' (by omega)).mono ?_; rintro e w1 ⟨rfl, hb1⟩)
      go_roundw
      case rel => exact ⟨k + 1, by omega, by go_num, HB.out.drew.trans (hb1.mono HB.out.size)⟩
      case measure => simp [intOf]; omega
    · obtain rfl : k = l.length := by omega
      clear hcells hcells'
      go_wp2
      go_ret
      exact ⟨rfl, hb⟩
theorem DRadio.mk_tr (x : DRadio) (K : Nat) : mkL x.tr K = [.lit (.string (mtext (K))), .lit (.int .i64 ((K : Int) + 1)), .lit (.int .i64 ((K : Int) + 1 + 1)), .lit (.int .i64 ((K : Int) + 1 + 1 + 1)), .lit (.int .i64 ((K : Int) + 1 + 1 + 1 + 1)), mkT (DMode.sT x.modes) (K + 1 + 1 + 1 + 1 + 1)] := rfl
theorem DRadio.cntL_tr (x : DRadio) : cntL x.tr = 1 + 1 + 1 + 1 + 1 + cnt (DMode.sT x.modes) := by simp only [DRadio.tr, cntL, cnt, intT, strT]; omega
set_option maxHeartbeats 4000000 in
set_option maxRecDepth 100000 in
theorem mark_RadioS (l : List DRadio) (v : Value) (fp : List Nat) (k0 lo : Nat) (w : World) (h : Own w (DRadio.sT l) v fp) (hin : In lo w.heap.size fp) (hs : siz (DRadio.sT l) ≤ 1099511627776) (hk0 : k0 + cnt (DRadio.sT l) ≤ 1099511627776) (hk1 : 0 < k0) :
    Calls Try.prog 54 #[v, .int .i64 k0] w fun e w' => e = .returned (.int .i64 ((k0 + cnt (DRadio.sT l) : Nat) : Int)) ∧ Own w' (mkT (DRadio.sT l) k0) v fp ∧ Chg fp w w' := by
  rw [DRadio.siz_s] at hs
  obtain ⟨a, c, hv, hnc, hcm⟩ := h.form (k := 6) (g := DRadio.tr) (by decide) DRadio.tr_len
  subst hv
  rw [show cnt (DRadio.sT l) = cntL (l.flatMap DRadio.tr) from by rw [DRadio.sT, cnt]] at hk0 ⊢
  have hnb : (l.length : Int) ≤ 1099511627776 := by omega
  go_enter Try.func54, Try.ntmps54
  go_wp2
  go_loopw [1, 5] (fun kk i wr => ∃ (j K : Nat), j ≤ l.length ∧ i = .int .i64 j ∧ K = k0 + cntL ((l.take j).flatMap DRadio.tr) ∧ kk = .int .i64 (K : Int) ∧ Own wr (mid DRadio.tr 6 l k0 j) (.slice a l.length c) fp ∧ Chg fp w wr) (fun _ i wr => l.length - (intOf i).toNat)
  case atStart => exact ⟨0, k0, Nat.zero_le _, rfl, by simp [cntL], rfl, by rw [mid_zero]; exact h, Chg.refl _ _⟩
  case round =>
    obtain ⟨j, K, hj, rfl, hK, rfl, hown, hchg⟩ := hrel
    by_cases hlt : j < l.length
    · rw [mid_at _ _ _ _ _ hlt] at hown
      have hts : (mkL ((l.take j).flatMap DRadio.tr) k0).length = j * 6 := by rw [mkL_length, flat_length _ 6 DRadio.tr_len, List.length_take, Nat.min_eq_left hj]
      have hsum := cntL_take_succ DRadio.tr l j hlt
      have hle := cntL_flat_take_le DRadio.tr l (j + 1)
      have hcx := DRadio.cntL_tr l[j]
      have hkb : K + (1 + 1 + 1 + 1 + 1 + cnt (DMode.sT l[j].modes)) ≤ 1099511627776 := by omega
      have hkp : 0 < K := by omega
      have hszj := sizL_get_le DRadio.tr l j hlt
      have HM := Lib.hid (mid_succ DRadio.tr 6 l k0 j hlt)
      have HS := Lib.hid hsum
      have HK := Lib.hid hK
      have HC := Lib.hid hcx
      have HT := Lib.hid hts
      clear hsum hcx hle hK hts
      generalize mkL ((l.take j).flatMap DRadio.tr) k0 = TS at *
      generalize (l.drop (j + 1)).flatMap DRadio.tr = US at *
      have hin' : In lo wr.heap.size fp := hin.mono (Nat.le_refl _) hchg.size
      have o0 : Own wr (.sl 6 (TS ++ ([.lit (.string l[j].name), .lit (.int .i64 l[j].power), .lit (.int .i64 l[j].feeder), .lit (.int .i64 l[j].noise), .lit (.int .i64 l[j].width), DMode.sT l[j].modes] ++ US))) (.slice a l.length c) fp := hown
      clear hown
      obtain ⟨b, off, rfl, hbf⟩ := o0.someAddr
      have hbw := (hin' b hbf).2
      have hfz : ∀ i, wr.frozen? ⟨b, i, none⟩ = false := o0.free b hbf
      have z0 : wr.heap.size ≤ wr.heap.size := Nat.le_refl _
      obtain ⟨s0, _⟩ := o0.cellChunk 0 _ rfl (off + j * 6) (by rw [HT.out]; omega)
      obtain ⟨s1, _⟩ := o0.cellChunk 1 _ rfl (off + j * 6 + 1) (by rw [HT.out]; omega)
      obtain ⟨s2, _⟩ := o0.cellChunk 2 _ rfl (off + j * 6 + 2) (by rw [HT.out]; omega)
      obtain ⟨s3, _⟩ := o0.cellChunk 3 _ rfl (off + j * 6 + 3) (by rw [HT.out]; omega)
      obtain ⟨s4, _⟩ := o0.cellChunk 4 _ rfl (off + j * 6 + 4) (by rw [HT.out]; omega)
      obtain ⟨x5, g5, s5, _, _, _, _⟩ := o0.partChunk 5 _ rfl (off + j * 6 + 5) (by rw [HT.out]; omega)
      have O0 := Lib.hid o0
      have C0 := Lib.hid hchg
      clear o0 hchg
      go_wp2_with fail
      refine (markText_int _ _ (by omega) (by omega)).mono ?_
      rintro e w1 ⟨rfl, hb1⟩
      obtain ⟨qa1, qb1, hbw1⟩ := bcellAt hb1 (b := b) (by first | omega | (simp only [size_setCell]; omega))
      have z1 : wr.heap.size ≤ w1.heap.size := by have := hb1.size; (try simp only [size_setCell] at this); omega
      have O1 := Lib.hid ((O0.out.below hin' (by first | omega | (simp only [size_setCell]; omega)) hb1).setChunk 0 _ rfl (off + j * 6) (by rw [HT.out]; omega) (.string (mtext (K))))
      have C1 := Lib.hid ((C0.out.trans (Chg.of_below hb1)).setCell (p := ⟨b, off + j * 6, none⟩) hbf (.string (mtext (K))))
      have O2 := Lib.hid (O1.out.setChunk 1 _ rfl (off + j * 6 + 1) (by rw [HT.out]; omega) (.int .i64 ((K : Int) + 1)))
      have C2 := Lib.hid (C1.out.setCell (p := ⟨b, off + j * 6 + 1, none⟩) hbf (.int .i64 ((K : Int) + 1)))
      have O3 := Lib.hid (O2.out.setChunk 2 _ rfl (off + j * 6 + 2) (by rw [HT.out]; omega) (.int .i64 ((K : Int) + 1 + 1)))
      have C3 := Lib.hid (C2.out.setCell (p := ⟨b, off + j * 6 + 2, none⟩) hbf (.int .i64 ((K : Int) + 1 + 1)))
      have O4 := Lib.hid (O3.out.setChunk 3 _ rfl (off + j * 6 + 3) (by rw [HT.out]; omega) (.int .i64 ((K : Int) + 1 + 1 + 1)))
      have C4 := Lib.hid (C3.out.setCell (p := ⟨b, off + j * 6 + 3, none⟩) hbf (.int .i64 ((K : Int) + 1 + 1 + 1)))
      have O5 := Lib.hid (O4.out.setChunk 4 _ rfl (off + j * 6 + 4) (by rw [HT.out]; omega) (.int .i64 ((K : Int) + 1 + 1 + 1 + 1)))
      have C5 := Lib.hid (C4.out.setCell (p := ⟨b, off + j * 6 + 4, none⟩) hbf (.int .i64 ((K : Int) + 1 + 1 + 1 + 1)))
      obtain ⟨y5, h5, sy5, hox5, hgf5, hbg5, hset5⟩ := O5.out.partChunk 5 _ rfl (off + j * 6 + 5) (by rw [HT.out]; omega)
      have HX5 := Lib.hid hox5
      have HY5 := Lib.hid hset5
      clear hox5 hset5
      have hsz5 : siz (DMode.sT l[j].modes) ≤ 1099511627776 := by
        have : siz (DMode.sT l[j].modes) ≤ sizL l[j].tr := by simp only [DRadio.tr, sizL]; omega
        omega
      go_wp2_with fail
      refine (markI_ModeS (l[j].modes) y5 h5 (K + 1 + 1 + 1 + 1 + 1) lo _ _ HX5.out (fun y hy => ⟨(hin' y (hgf5 y hy)).1, by have := (hin' y (hgf5 y hy)).2; (try simp only [size_setCell]); omega⟩) hsz5 (by simp only [Int.natCast_add, Int.natCast_one]) (by omega) (by omega)).mono ?_
      rintro e w2 ⟨rfl, ho2, hc2⟩
      have z2 : wr.heap.size ≤ w2.heap.size := by have := hc2.size; (try simp only [size_setCell] at this); omega
      have hbk2 := hc2.block b (by first | omega | (simp only [size_setCell]; omega)) hbg5
      have qa2 : ∀ o, w2.cell? ⟨b, o, none⟩ = _ := fun o => World.cell?_of_block (a := ⟨b, o, none⟩) hbk2
      have qb2 : ∀ o, w2.frozen? ⟨b, o, none⟩ = _ := fun o => World.frozen?_of_block (a := ⟨b, o, none⟩) hbk2
      clear hbk2
      have O6 := Lib.hid (HY5.out w2 _ (fun y hy hyg => hc2.block y (by have := (hin' y hy).2; (try simp only [size_setCell]); omega) hyg) ho2)
      have C6 := Lib.hid (C5.out.trans (hc2.mono hgf5))
      clear hc2 ho2
      go_wp2
      go_roundw
      case rel =>
        refine ⟨j + 1, K + (1 + 1 + 1 + 1 + 1 + cnt (DMode.sT l[j].modes)), by omega, by go_num, by have := HK.out; have := HS.out; have := HC.out; omega, by go_num, ?_, C6.out⟩
        rw [HM.out, ← HK.out, DRadio.mk_tr]
        exact O6.out
      case measure => simp [intOf]; omega
    · obtain rfl : j = l.length := by omega
      have HK := Lib.hid hK
      clear hK
      go_wp2
      go_ret
      rw [mid_end] at hown
      have e := HK.out
      rw [List.take_length] at e
      exact ⟨ret_int (by omega), hown, hchg⟩
theorem markI_RadioS (l : List DRadio) (v : Value) (fp : List Nat) (k lo : Nat) (K : Int) (w : World) (h : Own w (DRadio.sT l) v fp) (hin : In lo w.heap.size fp) (hs : siz (DRadio.sT l) ≤ 1099511627776) (hK : K = (k : Int)) (hk0 : k + cnt (DRadio.sT l) ≤ 1099511627776) (hk1 : 0 < k) :
    Calls Try.prog 54 #[v, .int .i64 K] w fun e w' => e = .returned (.int .i64 (K + (cnt (DRadio.sT l) : Int))) ∧ Own w' (mkT (DRadio.sT l) k) v fp ∧ Chg fp w w' := by
  subst hK
  refine (mark_RadioS l v fp k lo w h hin hs hk0 hk1).mono fun e w' ⟨he, h1, h2⟩ => ⟨?_, h1, h2⟩
  rw [he, Int.natCast_add]
set_option maxHeartbeats 4000000 in
set_option maxRecDepth 100000 in
theorem held_RadioS (l : List DRadio) (v : Value) (B k0 : Nat) (w : World) (h : Rd B w (mkT (DRadio.sT l) k0) v) (hB : B ≤ w.heap.size) (hs : siz (DRadio.sT l) ≤ 1099511627776) (hk0 : k0 + cnt (DRadio.sT l) ≤ 1099511627776) (hk1 : 0 < k0) :
    Calls Try.prog 59 #[v, .int .i64 k0] w fun e w' => e = .returned (.int .i64 ((k0 + cnt (DRadio.sT l) : Nat) : Int)) ∧ Below w.heap.size w w' := by
  obtain ⟨a, c, rfl, hnc, hcm, hcells⟩ := h.mkAt (k := 6) (g := DRadio.tr) (by decide) DRadio.tr_len
  clear h
  have hcl : cnt (DRadio.sT l) = cntL (l.flatMap DRadio.tr) := rfl
  have hsl : l.length ≤ 1099511627776 := by rw [DRadio.siz_s] at hs; omega
  rw [DRadio.siz_s] at hs
  have HCL := Lib.hid hcells
  clear hcells
  go_enter Try.func59, Try.ntmps59
  go_wp2
  go_loopw [1, 5] (fun kk i wr => ∃ (j K : Nat), j ≤ l.length ∧ i = .int .i64 j ∧ K = k0 + cntL ((l.take j).flatMap DRadio.tr) ∧ kk = .int .i64 (K : Int) ∧ Below w.heap.size w wr) (fun _ i wr => l.length - (intOf i).toNat)
  case atStart => exact ⟨0, k0, Nat.zero_le _, rfl, by simp [cntL], rfl, Below.refl _ _⟩
  case round =>
    obtain ⟨j, K, hj, rfl, hK, rfl, hb⟩ := hrel
    have HB0 := Lib.hid hb
    clear hb
    by_cases hlt : j < l.length
    · obtain ⟨b, off, ea, hbl, hat⟩ := HCL.out (by omega)
      subst ea
      have hsum := cntL_take_succ DRadio.tr l j hlt
      have hle := cntL_flat_take_le DRadio.tr l (j + 1)
      have hcx := DRadio.cntL_tr l[j]
      have hszj := sizL_get_le DRadio.tr l j hlt
      have hkp : 0 < K := by omega
      obtain ⟨u0, s0, ru0⟩ := hat j hlt 0 (.lit (.string (mtext (K)))) (by rw [← hK, DRadio.mk_tr]; rfl)
      obtain rfl := Rd.lit.1 ru0
      obtain ⟨u1, s1, ru1⟩ := hat j hlt 1 (.lit (.int .i64 ((K : Int) + 1))) (by rw [← hK, DRadio.mk_tr]; rfl)
      obtain rfl := Rd.lit.1 ru1
      obtain ⟨u2, s2, ru2⟩ := hat j hlt 2 (.lit (.int .i64 ((K : Int) + 1 + 1))) (by rw [← hK, DRadio.mk_tr]; rfl)
      obtain rfl := Rd.lit.1 ru2
      obtain ⟨u3, s3, ru3⟩ := hat j hlt 3 (.lit (.int .i64 ((K : Int) + 1 + 1 + 1))) (by rw [← hK, DRadio.mk_tr]; rfl)
      obtain rfl := Rd.lit.1 ru3
      obtain ⟨u4, s4, ru4⟩ := hat j hlt 4 (.lit (.int .i64 ((K : Int) + 1 + 1 + 1 + 1))) (by rw [← hK, DRadio.mk_tr]; rfl)
      obtain rfl := Rd.lit.1 ru4
      obtain ⟨u5, s5, ru5⟩ := hat j hlt 5 (mkT (DMode.sT l[j].modes) (K + 1 + 1 + 1 + 1 + 1)) (by rw [← hK, DRadio.mk_tr]; rfl)
      rw [Nat.add_zero] at s0
      have HK := Lib.hid hK
      have HSU := Lib.hid hsum
      have HCX := Lib.hid hcx
      have HLE := Lib.hid hle
      have hkb : K + (1 + 1 + 1 + 1 + 1 + cnt (DMode.sT l[j].modes)) ≤ 1099511627776 := by omega
      clear hat hK hsum hcx hle
      have i1 : (0 : Int) ≤ (j : Int) := by omega
      have i2 : (j : Int) < (l.length : Int) := by omega
      have yb0 : b < wr.heap.size := by have := HB0.out.size; omega
      have s0_0 := (bat HB0.out b _ (Nat.lt_of_lt_of_le hbl hB)).trans s0
      have s1_0 := (bat HB0.out b _ (Nat.lt_of_lt_of_le hbl hB)).trans s1
      have s2_0 := (bat HB0.out b _ (Nat.lt_of_lt_of_le hbl hB)).trans s2
      have s3_0 := (bat HB0.out b _ (Nat.lt_of_lt_of_le hbl hB)).trans s3
      have s4_0 := (bat HB0.out b _ (Nat.lt_of_lt_of_le hbl hB)).trans s4
      have s5_0 := (bat HB0.out b _ (Nat.lt_of_lt_of_le hbl hB)).trans s5
      have HM0 : Hid (∀ W : World, Calls Try.prog 34 #[.int .i64 ((K : Int))] W fun e w' => e = .returned (.string (mtext (K))) ∧ Below W.heap.size W w') := fun W => by
        have et : ((K : Int)).toNat = K := by omega
        rw [← et]; exact markText_int _ W (by omega) (by omega)
      have oB0 := overC (w0 := wr) yb0
      have hne0 : (!((mtext (K)).toList == (mtext (K)).toList)) = false := by simp
      go_wp2
      refine wp_region_over wr.heap.size wr (Below.refl _ _) (by kernel_rfl) (by kernel_rfl) ?_
      repeat (go_big_quiet_step (first | (go_at_call 34; exact over_left (Nat.le_refl _) (HM0.out _))))
      refine wpQuiet_nil ?_
      rintro _ ⟨X0, rfl⟩
      have hX0 := over_below wr.heap.size wr X0
      clear oB0 hne0
      clear s0_0 s1_0 s2_0 s3_0 s4_0 s5_0
      generalize over wr.heap.size wr X0 = w1 at *
      have HB1 := Lib.hid (HB0.out.trans (hX0.mono HB0.out.size))
      have yb1 : b < w1.heap.size := by have := hX0.size; omega
      clear hX0
      have s0_1 := (bat HB1.out b _ (Nat.lt_of_lt_of_le hbl hB)).trans s0
      have s1_1 := (bat HB1.out b _ (Nat.lt_of_lt_of_le hbl hB)).trans s1
      have s2_1 := (bat HB1.out b _ (Nat.lt_of_lt_of_le hbl hB)).trans s2
      have s3_1 := (bat HB1.out b _ (Nat.lt_of_lt_of_le hbl hB)).trans s3
      have s4_1 := (bat HB1.out b _ (Nat.lt_of_lt_of_le hbl hB)).trans s4
      have s5_1 := (bat HB1.out b _ (Nat.lt_of_lt_of_le hbl hB)).trans s5
      have hsz5 : siz (DMode.sT l[j].modes) ≤ 1099511627776 := by
        have : siz (DMode.sT l[j].modes) ≤ sizL l[j].tr := by simp only [DRadio.tr, sizL]; omega
        omega
      have hn5 : decide (((K : Int) + 1 + 1 + 1 + 1 + 1 + (cnt (DMode.sT l[j].modes) : Int)) < 0) = false := by simp; omega
      go_wp2_with fail
      refine (heldI_ModeS (l[j].modes) u5 B (K + 1 + 1 + 1 + 1 + 1) _ _ (ru5.below (HB1.out.mono hB)) (by have := HB1.out.size; omega) hsz5 (by simp only [Int.natCast_add, Int.natCast_one]) (by omega) (by omega)).mono ?_
      rintro e w2 ⟨rfl, hb2⟩
      clear s0_1 s1_1 s2_1 s3_1 s4_1 s5_1
      have HB2 := Lib.hid (HB1.out.trans (hb2.mono HB1.out.size))
      have yb2 : b < w2.heap.size := by have := hb2.size; omega
      clear hb2
      have s0_2 := (bat HB2.out b _ (Nat.lt_of_lt_of_le hbl hB)).trans s0
      have s1_2 := (bat HB2.out b _ (Nat.lt_of_lt_of_le hbl hB)).trans s1
      have s2_2 := (bat HB2.out b _ (Nat.lt_of_lt_of_le hbl hB)).trans s2
      have s3_2 := (bat HB2.out b _ (Nat.lt_of_lt_of_le hbl hB)).trans s3
      have s4_2 := (bat HB2.out b _ (Nat.lt_of_lt_of_le hbl hB)).trans s4
      have s5_2 := (bat HB2.out b _ (Nat.lt_of_lt_of_le hbl hB)).trans s5
      go_wp2
      go_roundw
      case rel => exact ⟨j + 1, K + cntL l[j].tr, by omega, by go_num, by rw [HSU.out, HK.out]; omega, by rw [HCX.out]; simp only [Int.natCast_add, Int.natCast_one, ← Int.add_assoc], HB2.out⟩
      case measure => simp [intOf]; omega
    · obtain rfl : j = l.length := by omega
      go_wp2
      go_ret
      rw [List.take_length] at hK
      exact ⟨ret_int (by rw [hcl, hK]), HB0.out⟩
theorem heldI_RadioS (l : List DRadio) (v : Value) (B k : Nat) (K : Int) (w : World) (h : Rd B w (mkT (DRadio.sT l) k) v) (hB : B ≤ w.heap.size) (hs : siz (DRadio.sT l) ≤ 1099511627776) (hK : K = (k : Int)) (hk0 : k + cnt (DRadio.sT l) ≤ 1099511627776) (hk1 : 0 < k) :
    Calls Try.prog 59 #[v, .int .i64 K] w fun e w' => e = .returned (.int .i64 (K + (cnt (DRadio.sT l) : Int))) ∧ Below w.heap.size w w' := by
  subst hK
  refine (held_RadioS l v B k w h hB hs hk0 hk1).mono fun e w' ⟨he, h1⟩ => ⟨?_, h1⟩
  rw [he, Int.natCast_add]
end Go.Proofs.Ytlfkdhakibagaaa
