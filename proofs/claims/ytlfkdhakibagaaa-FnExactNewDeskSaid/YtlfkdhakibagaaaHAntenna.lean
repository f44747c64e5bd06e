/- Contracts of the laws' helpers over the type Antenna and slices of it. Conditions: bounded lengths. -/
import Derived.Test.YtlfkdhakibagaaaInts2
import Derived.Test.YtlfkdhakibagaaaTypes
import Derived.Test.YtlfkdhakibagaaaText
import Derived.Test.YtlfkdhakibagaaaOver
namespace Go.Proofs.Ytlfkdhakibagaaa
open Go.RowKit
set_option linter.unusedVariables false

theorem DAntenna.siz_tr (x : DAntenna) : sizL x.tr = x.name.size + siz (intsT x.horizontal) + siz (intsT x.vertical) := by
  simp only [DAntenna.tr, sizL, siz, intT, strT]
  omega
set_option maxHeartbeats 4000000 in
set_option maxRecDepth 100000 in
theorem eq_Antenna (x : DAntenna) (v2 u2 v3 u3 : Value) (B : Nat) (w : World) (h2 : Rd B w (intsT x.horizontal) v2) (g2 : Rd B w (intsT x.horizontal) u2) (h3 : Rd B w (intsT x.vertical) v3) (g3 : Rd B w (intsT x.vertical) u3) (hB : B ≤ w.heap.size) (hn : sizL x.tr ≤ 1099511627776) :
    Calls Try.prog 64 #[.agg #[.string x.name, .int .i64 x.gain, v2, v3], .agg #[.string x.name, .int .i64 x.gain, u2, u3]] w fun e w' => e = .returned (.bool true) ∧ Below w.heap.size w w' := by
  have hsum := DAntenna.siz_tr x
  have b0 : Below w.heap.size w ((w.alloc (.cells #[.string x.name, .int .i64 x.gain, v2, v3] 112)).alloc (.cells #[.string x.name, .int .i64 x.gain, u2, u3] 112)) := ((Below.refl _ _).alloc (Nat.le_refl _) _).alloc (by simp) _
  have B0 := Lib.hid b0
  have y0 : w.heap.size + 2 ≤ ((w.alloc (.cells #[.string x.name, .int .i64 x.gain, v2, v3] 112)).alloc (.cells #[.string x.name, .int .i64 x.gain, u2, u3] 112)).heap.size := by first | (simp; done) | (simp; omega)
  clear b0
  go_enter Try.func64, Try.ntmps64
  go_wp2_with fail
  refine (eq_Int64S x.horizontal v2 u2 B _ (h2.below (B0.out.mono hB)) (g2.below (B0.out.mono hB)) (by omega) (by omega)).mono ?_
  rintro e w1 ⟨rfl, hb1⟩
  obtain ⟨qa1, _, ya1⟩ := bcellAt hb1 (b := w.heap.size) (by omega)
  obtain ⟨qb1, _, yb1⟩ := bcellAt hb1 (b := w.heap.size + 1) (by omega)
  have y1 : w.heap.size + 2 ≤ w1.heap.size := by have := hb1.size; omega
  have B1 := Lib.hid (B0.out.trans (hb1.mono (by omega)))
  clear hb1
  go_wp2_with fail
  refine (eq_Int64S x.vertical v3 u3 B _ (h3.below (B1.out.mono hB)) (g3.below (B1.out.mono hB)) (by omega) (by omega)).mono ?_
  rintro e w2 ⟨rfl, hb2⟩
  obtain ⟨qa2, _, ya2⟩ := bcellAt hb2 (b := w.heap.size) (by omega)
  obtain ⟨qb2, _, yb2⟩ := bcellAt hb2 (b := w.heap.size + 1) (by omega)
  have y2 : w.heap.size + 2 ≤ w2.heap.size := by have := hb2.size; omega
  have B2 := Lib.hid (B1.out.trans (hb2.mono (by omega)))
  clear hb2
  go_wp2
  go_ret
  exact ⟨rfl, B2.out⟩
theorem DAntenna.cnt_eq (x : DAntenna) : cnt (intsT x.horizontal) + cnt (intsT x.vertical) = cnt (intsT x.horizontal) + cnt (intsT x.vertical) := rfl
theorem DAntenna.sT_eq (l : List DAntenna) : DAntenna.sT l = .sl 4 (l.flatMap DAntenna.tr) := rfl
theorem DAntenna.siz_s (l : List DAntenna) : siz (DAntenna.sT l) = l.length + sizL (l.flatMap DAntenna.tr) := siz_flat DAntenna.tr 4 (by decide) DAntenna.tr_len l
set_option maxHeartbeats 2000000 in
set_option maxRecDepth 100000 in
theorem eq_AntennaS (l : List DAntenna) (v v' : Value) (B : Nat) (w : World) (h : Rd B w (DAntenna.sT l) v) (h' : Rd B w (DAntenna.sT l) v') (hB : B ≤ w.heap.size) (hn : siz (DAntenna.sT l) ≤ 1099511627776) :
    Calls Try.prog 45 #[v, v'] w fun e w' => e = .returned (.bool true) ∧ Below w.heap.size w w' := by
  rw [DAntenna.siz_s] at hn
  have hnb : (l.length : Int) ≤ 1099511627776 := by omega
  obtain ⟨a, c, rfl, hnc, hcm, hcells⟩ := DAntenna.rd h
  obtain ⟨a', c', rfl, hnc', hcm', hcells'⟩ := DAntenna.rd h'
  clear h h'
  have hne : ((l.length : Int) != l.length) = false := by simp
  go_enter Try.func45, Try.ntmps45
  go_wp2
  clear hne
  go_loopw [5] (fun i wr => ∃ (k : Nat), k ≤ l.length ∧ i = .int .i64 k ∧ Below w.heap.size w wr) (fun i wr => l.length - (intOf i).toNat)
  case atStart => exact ⟨0, Nat.zero_le _, rfl, Below.refl _ _⟩
  case round =>
    obtain ⟨k, hk, rfl, hb⟩ := hrel
    by_cases hlt : k < l.length
    · obtain ⟨b, off, rfl, hbl, hat⟩ := hcells (by omega)
      obtain ⟨b', off', rfl, hbl', hat'⟩ := hcells' (by omega)
      obtain ⟨s0, s1, ⟨u2, s2, r2⟩, ⟨u3, s3, r3⟩⟩ := hat k hlt
      obtain ⟨sb0, sb1, ⟨ub2, sb2, rb2⟩, ⟨ub3, sb3, rb3⟩⟩ := hat' k hlt
      rw [← hb.cell (p := ⟨b, _, none⟩) (show b < w.heap.size by omega)] at s0 s1 s2 s3
      rw [← hb.cell (p := ⟨b', _, none⟩) (show b' < w.heap.size by omega)] at sb0 sb1 sb2 sb3
      have t2 : Rd B wr.drew (intsT l[k].horizontal) u2 := (r2.below (hb.mono hB)).drew
      have tb2 : Rd B wr.drew (intsT l[k].horizontal) ub2 := (rb2.below (hb.mono hB)).drew
      have t3 : Rd B wr.drew (intsT l[k].vertical) u3 := (r3.below (hb.mono hB)).drew
      have tb3 : Rd B wr.drew (intsT l[k].vertical) ub3 := (rb3.below (hb.mono hB)).drew
      have hB' : B ≤ wr.heap.size := by have := hb.size; omega
      have hsl := sizL_get_le DAntenna.tr l k hlt
      have i1 : (0 : Int) ≤ (k : Int) := by omega
      have i2 : (k : Int) < (l.length : Int) := by omega
      have HB := Lib.hid hb
      clear hcells hat hcells' hat' hb r2 rb2 r3 rb3
      go_wp2
      go_still_tail 8, (by kernel_rfl)
      change wpList _ _ _ _ _ wr.drew
      go_wp2_with (go_at_call 64; refine (eq_Antenna l[k] u2 ub2 u3 ub3 B _ t2 tb2 t3 tb3 hB' (by omega)).mono ?_; rintro e w1 ⟨rfl, hb1⟩)
      go_roundw
      case rel => exact ⟨k + 1, by omega, by go_num, HB.out.drew.trans (hb1.mono HB.out.size)⟩
      case measure => simp [intOf]; omega
    · obtain rfl : k = l.length := by omega
      clear hcells hcells'
      go_wp2
      go_ret
      exact ⟨rfl, hb⟩
theorem DAntenna.mk_tr (x : DAntenna) (K : Nat) : mkL x.tr K = [.lit (.string (mtext (K))), .lit (.int .i64 ((K : Int) + 1)), mkT (intsT x.horizontal) (K + 1 + 1), mkT (intsT x.vertical) (K + 1 + 1 + cnt (intsT x.horizontal))] := rfl
theorem DAntenna.cntL_tr (x : DAntenna) : cntL x.tr = 1 + 1 + cnt (intsT x.horizontal) + cnt (intsT x.vertical) := by simp only [DAntenna.tr, cntL, cnt, intT, strT]; omega
set_option maxHeartbeats 4000000 in
set_option maxRecDepth 100000 in
theorem mark_AntennaS (l : List DAntenna) (v : Value) (fp : List Nat) (k0 lo : Nat) (w : World) (h : Own w (DAntenna.sT l) v fp) (hin : In lo w.heap.size fp) (hs : siz (DAntenna.sT l) ≤ 1099511627776) (hk0 : k0 + cnt (DAntenna.sT l) ≤ 1099511627776) (hk1 : 0 < k0) :
    Calls Try.prog 53 #[v, .int .i64 k0] w fun e w' => e = .returned (.int .i64 ((k0 + cnt (DAntenna.sT l) : Nat) : Int)) ∧ Own w' (mkT (DAntenna.sT l) k0) v fp ∧ Chg fp w w' := by
  rw [DAntenna.siz_s] at hs
  obtain ⟨a, c, hv, hnc, hcm⟩ := h.form (k := 4) (g := DAntenna.tr) (by decide) DAntenna.tr_len
  subst hv
  rw [show cnt (DAntenna.sT l) = cntL (l.flatMap DAntenna.tr) from by rw [DAntenna.sT, cnt]] at hk0 ⊢
  have hnb : (l.length : Int) ≤ 1099511627776 := by omega
  go_enter Try.func53, Try.ntmps53
  go_wp2
  go_loopw [1, 5] (fun kk i wr => ∃ (j K : Nat), j ≤ l.length ∧ i = .int .i64 j ∧ K = k0 + cntL ((l.take j).flatMap DAntenna.tr) ∧ kk = .int .i64 (K : Int) ∧ Own wr (mid DAntenna.tr 4 l k0 j) (.slice a l.length c) fp ∧ Chg fp w wr) (fun _ i wr => l.length - (intOf i).toNat)
  case atStart => exact ⟨0, k0, Nat.zero_le _, rfl, by simp [cntL], rfl, by rw [mid_zero]; exact h, Chg.refl _ _⟩
  case round =>
    obtain ⟨j, K, hj, rfl, hK, rfl, hown, hchg⟩ := hrel
    by_cases hlt : j < l.length
    · rw [mid_at _ _ _ _ _ hlt] at hown
      have hts : (mkL ((l.take j).flatMap DAntenna.tr) k0).length = j * 4 := by rw [mkL_length, flat_length _ 4 DAntenna.tr_len, List.length_take, Nat.min_eq_left hj]
      have hsum := cntL_take_succ DAntenna.tr l j hlt
      have hle := cntL_flat_take_le DAntenna.tr l (j + 1)
      have hcx := DAntenna.cntL_tr l[j]
      have hkb : K + (1 + 1 + cnt (intsT l[j].horizontal) + cnt (intsT l[j].vertical)) ≤ 1099511627776 := by omega
      have hkp : 0 < K := by omega
      have hszj := sizL_get_le DAntenna.tr l j hlt
      have HM := Lib.hid (mid_succ DAntenna.tr 4 l k0 j hlt)
      have HS := Lib.hid hsum
      have HK := Lib.hid hK
      have HC := Lib.hid hcx
      have HT := Lib.hid hts
      clear hsum hcx hle hK hts
      generalize mkL ((l.take j).flatMap DAntenna.tr) k0 = TS at *
      generalize (l.drop (j + 1)).flatMap DAntenna.tr = US at *
      have hin' : In lo wr.heap.size fp := hin.mono (Nat.le_refl _) hchg.size
      have o0 : Own wr (.sl 4 (TS ++ ([.lit (.string l[j].name), .lit (.int .i64 l[j].gain), intsT l[j].horizontal, intsT l[j].vertical] ++ US))) (.slice a l.length c) fp := hown
      clear hown
      obtain ⟨b, off, rfl, hbf⟩ := o0.someAddr
      have hbw := (hin' b hbf).2
      have hfz : ∀ i, wr.frozen? ⟨b, i, none⟩ = false := o0.free b hbf
      have z0 : wr.heap.size ≤ wr.heap.size := Nat.le_refl _
      obtain ⟨s0, _⟩ := o0.cellChunk 0 _ rfl (off + j * 4) (by rw [HT.out]; omega)
      obtain ⟨s1, _⟩ := o0.cellChunk 1 _ rfl (off + j * 4 + 1) (by rw [HT.out]; omega)
      obtain ⟨x2, g2, s2, _, _, _, _⟩ := o0.partChunk 2 _ rfl (off + j * 4 + 2) (by rw [HT.out]; omega)
      obtain ⟨x3, g3, s3, _, _, _, _⟩ := o0.partChunk 3 _ rfl (off + j * 4 + 3) (by rw [HT.out]; omega)
      have O0 := Lib.hid o0
      have C0 := Lib.hid hchg
      clear o0 hchg
      go_wp2_with fail
      refine (markText_int _ _ (by omega) (by omega)).mono ?_
      rintro e w1 ⟨rfl, hb1⟩
      obtain ⟨qa1, qb1, hbw1⟩ := bcellAt hb1 (b := b) (by first | omega | (simp only [size_setCell]; omega))
      have z1 : wr.heap.size ≤ w1.heap.size := by have := hb1.size; (try simp only [size_setCell] at this); omega
      have O1 := Lib.hid ((O0.out.below hin' (by first | omega | (simp only [size_setCell]; omega)) hb1).setChunk 0 _ rfl (off + j * 4) (by rw [HT.out]; omega) (.string (mtext (K))))
      have C1 := Lib.hid ((C0.out.trans (Chg.of_below hb1)).setCell (p := ⟨b, off + j * 4, none⟩) hbf (.string (mtext (K))))
      have O2 := Lib.hid (O1.out.setChunk 1 _ rfl (off + j * 4 + 1) (by rw [HT.out]; omega) (.int .i64 ((K : Int) + 1)))
      have C2 := Lib.hid (C1.out.setCell (p := ⟨b, off + j * 4 + 1, none⟩) hbf (.int .i64 ((K : Int) + 1)))
      obtain ⟨y2, h2, sy2, hox2, hgf2, hbg2, hset2⟩ := O2.out.partChunk 2 _ rfl (off + j * 4 + 2) (by rw [HT.out]; omega)
      have HX2 := Lib.hid hox2
      have HY2 := Lib.hid hset2
      clear hox2 hset2
      have hsz2 : siz (intsT l[j].horizontal) ≤ 1099511627776 := by
        have : siz (intsT l[j].horizontal) ≤ sizL l[j].tr := by simp only [DAntenna.tr, sizL]; omega
        omega
      go_wp2_with fail
      refine (markI_Int64S (l[j].horizontal) y2 h2 (K + 1 + 1) lo _ _ HX2.out (fun y hy => ⟨(hin' y (hgf2 y hy)).1, by have := (hin' y (hgf2 y hy)).2; (try simp only [size_setCell]); omega⟩) hsz2 (by simp only [Int.natCast_add, Int.natCast_one]) (by omega) (by omega)).mono ?_
      rintro e w2 ⟨rfl, ho2, hc2⟩
      have z2 : wr.heap.size ≤ w2.heap.size := by have := hc2.size; (try simp only [size_setCell] at this); omega
      have hbk2 := hc2.block b (by first | omega | (simp only [size_setCell]; omega)) hbg2
      have qb2 : ∀ o, w2.frozen? ⟨b, o, none⟩ = _ := fun o => World.frozen?_of_block (a := ⟨b, o, none⟩) hbk2
      clear hbk2
      have O3 := Lib.hid (HY2.out w2 _ (fun y hy hyg => hc2.block y (by have := (hin' y hy).2; (try simp only [size_setCell]); omega) hyg) ho2)
      have C3 := Lib.hid (C2.out.trans (hc2.mono hgf2))
      clear hc2 ho2
      obtain ⟨y3, h3, sy3, hox3, hgf3, hbg3, hset3⟩ := O3.out.partChunk 3 _ rfl (off + j * 4 + 3) (by rw [HT.out]; omega)
      have HX3 := Lib.hid hox3
      have HY3 := Lib.hid hset3
      clear hox3 hset3
      have hsz3 : siz (intsT l[j].vertical) ≤ 1099511627776 := by
        have : siz (intsT l[j].vertical) ≤ sizL l[j].tr := by simp only [DAntenna.tr, sizL]; omega
        omega
      go_wp2_with fail
      refine (markI_Int64S (l[j].vertical) y3 h3 (K + 1 + 1 + cnt (intsT l[j].horizontal)) lo _ _ HX3.out (fun y hy => ⟨(hin' y (hgf3 y hy)).1, by have := (hin' y (hgf3 y hy)).2; (try simp only [size_setCell]); omega⟩) hsz3 (by simp only [Int.natCast_add, Int.natCast_one]) (by omega) (by omega)).mono ?_
      rintro e w3 ⟨rfl, ho3, hc3⟩
      have z3 : wr.heap.size ≤ w3.heap.size := by have := hc3.size; (try simp only [size_setCell] at this); omega
      have hbk3 := hc3.block b (by first | omega | (simp only [size_setCell]; omega)) hbg3
      have qa3 : ∀ o, w3.cell? ⟨b, o, none⟩ = _ := fun o => World.cell?_of_block (a := ⟨b, o, none⟩) hbk3
      have qb3 : ∀ o, w3.frozen? ⟨b, o, none⟩ = _ := fun o => World.frozen?_of_block (a := ⟨b, o, none⟩) hbk3
      clear hbk3
      have O4 := Lib.hid (HY3.out w3 _ (fun y hy hyg => hc3.block y (by have := (hin' y hy).2; (try simp only [size_setCell]); omega) hyg) ho3)
      have C4 := Lib.hid (C3.out.trans (hc3.mono hgf3))
      clear hc3 ho3
      go_wp2
      go_roundw
      case rel =>
        refine ⟨j + 1, K + (1 + 1 + cnt (intsT l[j].horizontal) + cnt (intsT l[j].vertical)), by omega, by go_num, by have := HK.out; have := HS.out; have := HC.out; omega, by go_num, ?_, C4.out⟩
        rw [HM.out, ← HK.out, DAntenna.mk_tr]
        exact O4.out
      case measure => simp [intOf]; omega
    · obtain rfl : j = l.length := by omega
      have HK := Lib.hid hK
      clear hK
      go_wp2
      go_ret
      rw [mid_end] at hown
      have e := HK.out
      rw [List.take_length] at e
      exact ⟨ret_int (by omega), hown, hchg⟩
theorem markI_AntennaS (l : List DAntenna) (v : Value) (fp : List Nat) (k lo : Nat) (K : Int) (w : World) (h : Own w (DAntenna.sT l) v fp) (hin : In lo w.heap.size fp) (hs : siz (DAntenna.sT l) ≤ 1099511627776) (hK : K = (k : Int)) (hk0 : k + cnt (DAntenna.sT l) ≤ 1099511627776) (hk1 : 0 < k) :
    Calls Try.prog 53 #[v, .int .i64 K] w fun e w' => e = .returned (.int .i64 (K + (cnt (DAntenna.sT l) : Int))) ∧ Own w' (mkT (DAntenna.sT l) k) v fp ∧ Chg fp w w' := by
  subst hK
  refine (mark_AntennaS l v fp k lo w h hin hs hk0 hk1).mono fun e w' ⟨he, h1, h2⟩ => ⟨?_, h1, h2⟩
  rw [he, Int.natCast_add]
set_option maxHeartbeats 4000000 in
set_option maxRecDepth 100000 in
theorem held_AntennaS (l : List DAntenna) (v : Value) (B k0 : Nat) (w : World) (h : Rd B w (mkT (DAntenna.sT l) k0) v) (hB : B ≤ w.heap.size) (hs : siz (DAntenna.sT l) ≤ 1099511627776) (hk0 : k0 + cnt (DAntenna.sT l) ≤ 1099511627776) (hk1 : 0 < k0) :
    Calls Try.prog 58 #[v, .int .i64 k0] w fun e w' => e = .returned (.int .i64 ((k0 + cnt (DAntenna.sT l) : Nat) : Int)) ∧ Below w.heap.size w w' := by
  obtain ⟨a, c, rfl, hnc, hcm, hcells⟩ := h.mkAt (k := 4) (g := DAntenna.tr) (by decide) DAntenna.tr_len
  clear h
  have hcl : cnt (DAntenna.sT l) = cntL (l.flatMap DAntenna.tr) := rfl
  have hsl : l.length ≤ 1099511627776 := by rw [DAntenna.siz_s] at hs; omega
  rw [DAntenna.siz_s] at hs
  have HCL := Lib.hid hcells
  clear hcells
  go_enter Try.func58, Try.ntmps58
  go_wp2
  go_loopw [1, 5] (fun kk i wr => ∃ (j K : Nat), j ≤ l.length ∧ i = .int .i64 j ∧ K = k0 + cntL ((l.take j).flatMap DAntenna.tr) ∧ kk = .int .i64 (K : Int) ∧ Below w.heap.size w wr) (fun _ i wr => l.length - (intOf i).toNat)
  case atStart => exact ⟨0, k0, Nat.zero_le _, rfl, by simp [cntL], rfl, Below.refl _ _⟩
  case round =>
    obtain ⟨j, K, hj, rfl, hK, rfl, hb⟩ := hrel
    have HB0 := Lib.hid hb
    clear hb
    by_cases hlt : j < l.length
    · obtain ⟨b, off, ea, hbl, hat⟩ := HCL.out (by omega)
      subst ea
      have hsum := cntL_take_succ DAntenna.tr l j hlt
      have hle := cntL_flat_take_le DAntenna.tr l (j + 1)
      have hcx := DAntenna.cntL_tr l[j]
      have hszj := sizL_get_le DAntenna.tr l j hlt
      have hkp : 0 < K := by omega
      obtain ⟨u0, s0, ru0⟩ := hat j hlt 0 (.lit (.string (mtext (K)))) (by rw [← hK, DAntenna.mk_tr]; rfl)
      obtain rfl := Rd.lit.1 ru0
      obtain ⟨u1, s1, ru1⟩ := hat j hlt 1 (.lit (.int .i64 ((K : Int) + 1))) (by rw [← hK, DAntenna.mk_tr]; rfl)
      obtain rfl := Rd.lit.1 ru1
      obtain ⟨u2, s2, ru2⟩ := hat j hlt 2 (mkT (intsT l[j].horizontal) (K + 1 + 1)) (by rw [← hK, DAntenna.mk_tr]; rfl)
      obtain ⟨u3, s3, ru3⟩ := hat j hlt 3 (mkT (intsT l[j].vertical) (K + 1 + 1 + cnt (intsT l[j].horizontal))) (by rw [← hK, DAntenna.mk_tr]; rfl)
      rw [Nat.add_zero] at s0
      have HK := Lib.hid hK
      have HSU := Lib.hid hsum
      have HCX := Lib.hid hcx
      have HLE := Lib.hid hle
      have hkb : K + (1 + 1 + cnt (intsT l[j].horizontal) + cnt (intsT l[j].vertical)) ≤ 1099511627776 := by omega
      clear hat hK hsum hcx hle
      have i1 : (0 : Int) ≤ (j : Int) := by omega
      have i2 : (j : Int) < (l.length : Int) := by omega
      have yb0 : b < wr.heap.size := by have := HB0.out.size; omega
      have s0_0 := (bat HB0.out b _ (Nat.lt_of_lt_of_le hbl hB)).trans s0
      have s1_0 := (bat HB0.out b _ (Nat.lt_of_lt_of_le hbl hB)).trans s1
      have s2_0 := (bat HB0.out b _ (Nat.lt_of_lt_of_le hbl hB)).trans s2
      have s3_0 := (bat HB0.out b _ (Nat.lt_of_lt_of_le hbl hB)).trans s3
      have HM0 : Hid (∀ W : World, Calls Try.prog 34 #[.int .i64 ((K : Int))] W fun e w' => e = .returned (.string (mtext (K))) ∧ Below W.heap.size W w') := fun W => by
        have et : ((K : Int)).toNat = K := by omega
        rw [← et]; exact markText_int _ W (by omega) (by omega)
      have oB0 := overC (w0 := wr) yb0
      have hne0 : (!((mtext (K)).toList == (mtext (K)).toList)) = false := by simp
      go_wp2
      refine wp_region_over wr.heap.size wr (Below.refl _ _) (by kernel_rfl) (by kernel_rfl) ?_
      repeat (go_big_quiet_step (first | (go_at_call 34; exact over_left (Nat.le_refl _) (HM0.out _))))
      refine wpQuiet_nil ?_
      rintro _ ⟨X0, rfl⟩
      have hX0 := over_below wr.heap.size wr X0
      clear oB0 hne0
      clear s0_0 s1_0 s2_0 s3_0
      generalize over wr.heap.size wr X0 = w1 at *
      have HB1 := Lib.hid (HB0.out.trans (hX0.mono HB0.out.size))
      have yb1 : b < w1.heap.size := by have := hX0.size; omega
      clear hX0
      have s0_1 := (bat HB1.out b _ (Nat.lt_of_lt_of_le hbl hB)).trans s0
      have s1_1 := (bat HB1.out b _ (Nat.lt_of_lt_of_le hbl hB)).trans s1
      have s2_1 := (bat HB1.out b _ (Nat.lt_of_lt_of_le hbl hB)).trans s2
      have s3_1 := (bat HB1.out b _ (Nat.lt_of_lt_of_le hbl hB)).trans s3
      have hsz2 : siz (intsT l[j].horizontal) ≤ 1099511627776 := by
        have : siz (intsT l[j].horizontal) ≤ sizL l[j].tr := by simp only [DAntenna.tr, sizL]; omega
        omega
      have hn2 : decide (((K : Int) + 1 + 1 + (cnt (intsT l[j].horizontal) : Int)) < 0) = false := by simp; omega
      go_wp2_with fail
      refine (heldI_Int64S (l[j].horizontal) u2 B (K + 1 + 1) _ _ (ru2.below (HB1.out.mono hB)) (by have := HB1.out.size; omega) hsz2 (by simp only [Int.natCast_add, Int.natCast_one]) (by omega) (by omega)).mono ?_
      rintro e w2 ⟨rfl, hb2⟩
      clear s0_1 s1_1 s2_1 s3_1
      have HB2 := Lib.hid (HB1.out.trans (hb2.mono HB1.out.size))
      have yb2 : b < w2.heap.size := by have := hb2.size; omega
      clear hb2
      have s0_2 := (bat HB2.out b _ (Nat.lt_of_lt_of_le hbl hB)).trans s0
      have s1_2 := (bat HB2.out b _ (Nat.lt_of_lt_of_le hbl hB)).trans s1
      have s2_2 := (bat HB2.out b _ (Nat.lt_of_lt_of_le hbl hB)).trans s2
      have s3_2 := (bat HB2.out b _ (Nat.lt_of_lt_of_le hbl hB)).trans s3
      have hsz3 : siz (intsT l[j].vertical) ≤ 1099511627776 := by
        have : siz (intsT l[j].vertical) ≤ sizL l[j].tr := by simp only [DAntenna.tr, sizL]; omega
        omega
      have hn3 : decide (((K : Int) + 1 + 1 + (cnt (intsT l[j].horizontal) : Int) + (cnt (intsT l[j].vertical) : Int)) < 0) = false := by simp; omega
      go_wp2_with fail
      refine (heldI_Int64S (l[j].vertical) u3 B (K + 1 + 1 + cnt (intsT l[j].horizontal)) _ _ (ru3.below (HB2.out.mono hB)) (by have := HB2.out.size; omega) hsz3 (by simp only [Int.natCast_add, Int.natCast_one]) (by omega) (by omega)).mono ?_
      rintro e w3 ⟨rfl, hb3⟩
      clear s0_2 s1_2 s2_2 s3_2
      have HB3 := Lib.hid (HB2.out.trans (hb3.mono HB2.out.size))
      have yb3 : b < w3.heap.size := by have := hb3.size; omega
      clear hb3
      have s0_3 := (bat HB3.out b _ (Nat.lt_of_lt_of_le hbl hB)).trans s0
      have s1_3 := (bat HB3.out b _ (Nat.lt_of_lt_of_le hbl hB)).trans s1
      have s2_3 := (bat HB3.out b _ (Nat.lt_of_lt_of_le hbl hB)).trans s2
      have s3_3 := (bat HB3.out b _ (Nat.lt_of_lt_of_le hbl hB)).trans s3
      go_wp2
      go_roundw
      case rel => exact ⟨j + 1, K + cntL l[j].tr, by omega, by go_num, by rw [HSU.out, HK.out]; omega, by rw [HCX.out]; simp only [Int.natCast_add, Int.natCast_one, ← Int.add_assoc], HB3.out⟩
      case measure => simp [intOf]; omega
    · obtain rfl : j = l.length := by omega
      go_wp2
      go_ret
      rw [List.take_length] at hK
      exact ⟨ret_int (by rw [hcl, hK]), HB0.out⟩
theorem heldI_AntennaS (l : List DAntenna) (v : Value) (B k : Nat) (K : Int) (w : World) (h : Rd B w (mkT (DAntenna.sT l) k) v) (hB : B ≤ w.heap.size) (hs : siz (DAntenna.sT l) ≤ 1099511627776) (hK : K = (k : Int)) (hk0 : k + cnt (DAntenna.sT l) ≤ 1099511627776) (hk1 : 0 < k) :
    Calls Try.prog 58 #[v, .int .i64 K] w fun e w' => e = .returned (.int .i64 (K + (cnt (DAntenna.sT l) : Int))) ∧ Below w.heap.size w w' := by
  subst hK
  refine (held_AntennaS l v B k w h hB hs hk0 hk1).mono fun e w' ⟨he, h1⟩ => ⟨?_, h1⟩
  rw [he, Int.natCast_add]
end Go.Proofs.Ytlfkdhakibagaaa
