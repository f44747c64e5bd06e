/- Contracts of the laws' helpers over the type Fault and slices of it. Conditions: bounded lengths. -/
import Derived.Test.YtnnfdbkombmgbaaInts2
import Derived.Test.YtnnfdbkombmgbaaTypes
import Derived.Test.YtnnfdbkombmgbaaText
namespace Go.Proofs.Ytnnfdbkombmgbaa
open Go.RowKit
set_option linter.unusedVariables false

theorem DFault.siz_tr (x : DFault) : sizL x.tr = x.who.size + x.what.size := by simp [DFault.tr, sizL, siz, intT, strT] <;> omega
theorem sz_Fault (x : DFault) (B : Nat) (left : Int) (w : World) (hB : B ≤ w.heap.size) (hl : 0 ≤ left) (hl2 : left ≤ 1048576) (hok : x.ok) :
    Calls Try.prog 8 #[.agg #[.int .i64 x.kind, .string x.who, .string x.what], .int .i64 left] w (SzPost (sizL x.tr) left w) := by
  rw [DFault.siz_tr]
  have hs0 := hok.who
  have hs1 := hok.what
  unfold maxLen at hs0 hs1
  clear hok
  go_enter Try.func8, Try.ntmps8
  go_wp2
  all_goals go_ret
  all_goals first | exact ⟨Or.inl ⟨by omega, ret_int (by omega)⟩, (Below.refl _ _).alloc (Nat.le_refl _) _⟩ | exact ⟨Or.inr ⟨by omega, rfl⟩, (Below.refl _ _).alloc (Nat.le_refl _) _⟩
theorem to_Fault (x : DFault) (w : World) :
    Calls Try.prog 10 #[.agg #[.int .i64 x.kind, .string x.who, .string x.what]] w fun e w' => e = .returned (.agg #[.int .i64 x.kind, .string x.who, .string x.what]) ∧ Below w.heap.size w w' := by
  go_enter Try.func10, Try.ntmps10
  go_wp2
  exact bodyPost_ret (v := .agg #[.int .i64 x.kind, .string x.who, .string x.what]) (by simp [results, Try.results10, go_sem]) rfl ⟨rfl, (((Below.refl _ _).alloc (Nat.le_refl _) _).alloc (by simp) _).alloc (by simp; omega) _⟩
theorem eq_Fault (x : DFault) (w : World) :
    Calls Try.prog 24 #[.agg #[.int .i64 x.kind, .string x.who, .string x.what], .agg #[.int .i64 x.kind, .string x.who, .string x.what]] w fun e w' => e = .returned (.bool true) ∧ Below w.heap.size w w' := by
  go_enter Try.func24, Try.ntmps24
  go_wp2
  go_ret
  exact ⟨rfl, ((Below.refl _ _).alloc (Nat.le_refl _) _).alloc (by simp) _⟩
theorem DFault.sT_eq (l : List DFault) : DFault.sT l = .sl 3 (l.flatMap DFault.tr) := rfl
theorem DFault.siz_s (l : List DFault) : siz (DFault.sT l) = l.length + sizL (l.flatMap DFault.tr) := siz_flat DFault.tr 3 (by decide) DFault.tr_len l
theorem DFault.cnt_tr (x : DFault) : cntL x.tr = 3 := by simp [DFault.tr, cntL, cnt, intT, strT]
set_option maxHeartbeats 400000 in
theorem sz_FaultS (l : List DFault) (v : Value) (B : Nat) (left : Int) (w : World) (h : Rd B w (DFault.sT l) v) (hB : B ≤ w.heap.size) (hl : 0 ≤ left) (hl2 : left ≤ 1048576) (hstr : ∀ x ∈ l, x.ok) :
    Calls Try.prog 12 #[v, .int .i64 left] w (SzPost (siz (DFault.sT l)) left w) := by
  rw [DFault.siz_s]
  obtain ⟨a, c, rfl, hnc, hcm, hcells⟩ := DFault.rd h
  clear h
  unfold maxLen at hcm
  by_cases c1 : (l.length : Int) ≤ left
  · have c1' : decide (left - (l.length : Int) < 0) = false := by simp; omega
    go_enter Try.func12, Try.ntmps12
    go_wp2
    go_loopw [1, 5] (fun m i wr => ∃ (k : Nat), k ≤ l.length ∧ i = .int .i64 k ∧ (sizL ((l.take k).flatMap DFault.tr) : Int) ≤ left - l.length ∧ m = .int .i64 (left - l.length - sizL ((l.take k).flatMap DFault.tr)) ∧ Below w.heap.size w wr) (fun _ i wr => l.length - (intOf i).toNat)
    case atStart => exact ⟨0, Nat.zero_le _, rfl, by simp [sizL]; omega, by simp [sizL], Below.refl _ _⟩
    case round =>
      obtain ⟨k, hk, rfl, hm, rfl, hb⟩ := hrel
      by_cases hlt : k < l.length
      · obtain ⟨b, off, rfl, hbl, hat⟩ := hcells (by omega)
        obtain ⟨s0, s1, s2⟩ := hat k hlt
        rw [← hb.cell (p := ⟨b, _, none⟩) (show b < w.heap.size by omega)] at s0 s1 s2

        have hB' : B ≤ wr.heap.size := by have := hb.size; omega
        have hok := hstr l[k] (List.getElem_mem hlt)
        have hsum := sizL_take_succ DFault.tr l k hlt
        have hle := sizL_take_le DFault.tr l (k + 1)
        have HS := Lib.hid hsum
        have HB := Lib.hid hb
        clear hcells hat hb hsum hstr 
        go_wp2_with (go_at_call 8; refine (sz_Fault l[k]  B _ _  hB' (by omega) (by omega) hok).mono ?_; rintro e w1 ⟨⟨c2, rfl⟩ | ⟨c2, rfl⟩, hb1⟩)
        · have c3 : decide (left - l.length - sizL ((l.take k).flatMap DFault.tr) - sizL l[k].tr < 0) = false := by simp; omega
          go_wp2
          go_roundw
          case rel => exact ⟨k + 1, by omega, by go_num, by rw [HS.out]; omega, by rw [HS.out]; go_num, HB.out.trans (hb1.mono HB.out.size)⟩
          case measure => simp [intOf]; omega
        · go_wp2
          go_ret
          exact ⟨Or.inr ⟨by have := HS.out; omega, rfl⟩, HB.out.trans (hb1.mono HB.out.size)⟩
      · obtain rfl : k = l.length := by omega
        clear hcells
        rw [List.take_length] at hm
        go_wp2
        go_ret
        refine ⟨Or.inl ⟨by omega, ret_int ?_⟩, hb⟩
        simp only [List.take_length]
        omega
  · have c1' : decide (left - (l.length : Int) < 0) = true := by simp; omega
    go_enter Try.func12, Try.ntmps12
    go_wp2
    go_ret
    exact ⟨Or.inr ⟨by omega, rfl⟩, Below.refl _ _⟩
theorem infoFault : (Try.prog.info? 28).map (fun i => (i.zero, i.size, i.bytes)) = some (some (.agg #[.int .i64 0, .string ⟨#[]⟩, .string ⟨#[]⟩]), 3, 40) := by kernel_rfl
set_option maxHeartbeats 400000 in
theorem to_FaultS (l : List DFault) (v : Value) (w : World) (h : Rd w.heap.size w (DFault.sT l) v) (hn : siz (DFault.sT l) ≤ 1048576) :
    Calls Try.prog 14 #[v] w fun e w' => ∃ a' c' fp, e = .returned (.slice a' l.length c') ∧ Below w.heap.size w w' ∧ Own w' (DFault.sT l) (.slice a' l.length c') fp ∧ In w.heap.size w'.heap.size fp := by
  rw [DFault.siz_s] at hn
  obtain ⟨i0, hi0, hz0, hz1, hz2⟩ := info_parts infoFault
  have hmk := fun W => run_make_rowN (P := Try.prog) 35 28 i0 _ Try.underlying35 hi0 hz0 .i64 .i64 l.length l.length (Nat.le_refl _) (by rw [hz2]; omega) (by omega) W
  rw [hz1] at hmk
  have hnb : (l.length : Int) ≤ 1048576 := by omega
  obtain ⟨a, c, rfl, hnc, hcm, hcells⟩ := DFault.rd h
  clear h
  go_enter Try.func14, Try.ntmps14
  go_wp2
  clear hmk hi0 hz0 hz1 hz2
  go_loopw [4] (fun i wr => ∃ (k : Nat) (f : List Nat), k ≤ l.length ∧ i = .int .i64 k ∧ Below w.heap.size w wr ∧ Fill wr w.heap.size 28 (l.length * 3) ((l.take k).flatMap DFault.tr) f ∧ In w.heap.size wr.heap.size f) (fun i wr => l.length - (intOf i).toNat)
  case atStart =>
    have hst := Fill.start w (madeCells #[.int .i64 0, .string ⟨#[]⟩, .string ⟨#[]⟩] (l.length * 3)) 28
    rw [size_madeCells] at hst
    exact ⟨0, [], Nat.zero_le _, rfl, (Below.refl _ _).alloc (Nat.le_refl _) _, by simpa using hst, In.nil⟩
  case round =>
    obtain ⟨k, f, hk, rfl, hb, hfill, hin⟩ := hrel
    by_cases hlt : k < l.length
    · obtain ⟨b, off, rfl, hbl, hat⟩ := hcells (by omega)
      obtain ⟨s0, s1, s2⟩ := hat k hlt
      rw [← hb.cell (p := ⟨b, _, none⟩) hbl] at s0 s1 s2
      have hz := hfill.lt
      have hz2 : b < wr.heap.size := by omega
      obtain ⟨o0, p0⟩ := hfill.room (k * 3) (by omega)
      obtain ⟨o1, p1⟩ := hfill.room (k * 3 + 1) (by omega)
      obtain ⟨o2, p2⟩ := hfill.room (k * 3 + 2) (by omega)
      have hfz := hfill.open_
      have hsl := sizL_get_le DFault.tr l k hlt
      have HB := Lib.hid hb
      clear hcells hat hb 
      go_wp2_with (go_at_call 10; refine (to_Fault l[k] _).mono ?_; rintro e w1 ⟨rfl, hb1⟩; obtain ⟨q1, q2⟩ := bcell hb1)
      go_roundw
      case rel =>
        have hw1 := hfill.below hin hb1
        have hst := hw1.step (us := l[k].tr) (vs := [.int .i64 l[k].kind, .string l[k].who, .string l[k].what]) (g := []) (RepV.lits [.int .i64 l[k].kind, .string l[k].who, .string l[k].what]) (by rw [flat_length _ 3 DFault.tr_len]; simp; omega) List.nodup_nil (by simp) (by simp) (fun b h => by simp at h)
        rw [flat_length _ 3 DFault.tr_len, List.length_take, Nat.min_eq_left hk, List.append_nil, ← flat_take_succ DFault.tr l k hlt] at hst
        exact ⟨k + 1, f, by omega, by go_num, below_setRow (HB.out.trans (hb1.mono (by omega))) (Nat.le_refl _) [.int .i64 l[k].kind, .string l[k].who, .string l[k].what] (k * 3), hst, fun x hx => ⟨(hin x hx).1, by have := (hin x hx).2; have := hb1.size; simp only [size_setCell]; omega⟩⟩
      case measure => simp [intOf]; omega
    · obtain rfl : k = l.length := by omega
      clear hcells
      go_wp2
      go_ret
      rw [List.take_length] at hfill
      obtain ⟨fp, h1, h2⟩ := hfill.own (flat_length _ 3 DFault.tr_len l) (by unfold maxLen; omega)
      exact ⟨_, _, fp, rfl, hb, h1, fun x hx => by rcases h2 x hx with rfl | h; exact ⟨Nat.le_refl _, hfill.lt⟩; exact hin x h⟩
set_option maxHeartbeats 400000 in
theorem eq_FaultS (l : List DFault) (v v' : Value) (B : Nat) (w : World) (h : Rd B w (DFault.sT l) v) (h' : Rd B w (DFault.sT l) v') (hB : B ≤ w.heap.size) (hn : siz (DFault.sT l) ≤ 1099511627776) :
    Calls Try.prog 17 #[v, v'] w fun e w' => e = .returned (.bool true) ∧ Below w.heap.size w w' := by
  rw [DFault.siz_s] at hn
  have hnb : (l.length : Int) ≤ 1099511627776 := by omega
  obtain ⟨a, c, rfl, hnc, hcm, hcells⟩ := DFault.rd h
  obtain ⟨a', c', rfl, hnc', hcm', hcells'⟩ := DFault.rd h'
  clear h h'
  have hne : ((l.length : Int) != l.length) = false := by simp
  go_enter Try.func17, Try.ntmps17
  go_wp2
  clear hne
  go_loopw [5] (fun i wr => ∃ (k : Nat), k ≤ l.length ∧ i = .int .i64 k ∧ Below w.heap.size w wr) (fun i wr => l.length - (intOf i).toNat)
  case atStart => exact ⟨0, Nat.zero_le _, rfl, Below.refl _ _⟩
  case round =>
    obtain ⟨k, hk, rfl, hb⟩ := hrel
    by_cases hlt : k < l.length
    · obtain ⟨b, off, rfl, hbl, hat⟩ := hcells (by omega)
      obtain ⟨b', off', rfl, hbl', hat'⟩ := hcells' (by omega)
      obtain ⟨s0, s1, s2⟩ := hat k hlt
      obtain ⟨sb0, sb1, sb2⟩ := hat' k hlt
      rw [← hb.cell (p := ⟨b, _, none⟩) (show b < w.heap.size by omega)] at s0 s1 s2
      rw [← hb.cell (p := ⟨b', _, none⟩) (show b' < w.heap.size by omega)] at sb0 sb1 sb2
      have hB' : B ≤ wr.heap.size := by have := hb.size; omega
      have hsl := sizL_get_le DFault.tr l k hlt
      have i1 : (0 : Int) ≤ (k : Int) := by omega
      have i2 : (k : Int) < (l.length : Int) := by omega
      have HB := Lib.hid hb
      clear hcells hat hcells' hat' hb 
      go_wp2
      go_still_tail 8, (by kernel_rfl)
      change wpList _ _ _ _ _ wr.drew
      go_wp2_with (go_at_call 24; refine (eq_Fault l[k]   _  ).mono ?_; rintro e w1 ⟨rfl, hb1⟩)
      go_roundw
      case rel => exact ⟨k + 1, by omega, by go_num, HB.out.drew.trans (hb1.mono HB.out.size)⟩
      case measure => simp [intOf]; omega
    · obtain rfl : k = l.length := by omega
      clear hcells hcells'
      go_wp2
      go_ret
      exact ⟨rfl, hb⟩
theorem DFault.mk_tr (x : DFault) (K : Nat) : mkL x.tr K = [.lit (.int .i64 ((K : Int))), .lit (.string (mtext (K + 1))), .lit (.string (mtext (K + 1 + 1)))] := rfl
theorem DFault.cntL_tr (x : DFault) : cntL x.tr = 1 + 1 + 1 := rfl
set_option maxHeartbeats 1000000 in
theorem mark_FaultS (l : List DFault) (v : Value) (fp : List Nat) (k0 lo : Nat) (w : World) (h : Own w (DFault.sT l) v fp) (hin : In lo w.heap.size fp) (hs : siz (DFault.sT l) ≤ 1099511627776) (hk0 : k0 + cnt (DFault.sT l) ≤ 1099511627776) (hk1 : 0 < k0) :
    Calls Try.prog 18 #[v, .int .i64 k0] w fun e w' => e = .returned (.int .i64 ((k0 + cnt (DFault.sT l) : Nat) : Int)) ∧ Own w' (mkT (DFault.sT l) k0) v fp ∧ Chg fp w w' := by
  rw [DFault.siz_s] at hs
  obtain ⟨a, c, hv, hnc, hcm⟩ := h.form (k := 3) (g := DFault.tr) (by decide) DFault.tr_len
  subst hv
  rw [show cnt (DFault.sT l) = cntL (l.flatMap DFault.tr) from by rw [DFault.sT, cnt]] at hk0 ⊢
  have hnb : (l.length : Int) ≤ 1099511627776 := by omega
  go_enter Try.func18, Try.ntmps18
  go_wp2
  go_loopw [1, 5] (fun kk i wr => ∃ (j K : Nat), j ≤ l.length ∧ i = .int .i64 j ∧ K = k0 + cntL ((l.take j).flatMap DFault.tr) ∧ kk = .int .i64 (K : Int) ∧ Own wr (mid DFault.tr 3 l k0 j) (.slice a l.length c) fp ∧ Chg fp w wr) (fun _ i wr => l.length - (intOf i).toNat)
  case atStart => exact ⟨0, k0, Nat.zero_le _, rfl, by simp [cntL], rfl, by rw [mid_zero]; exact h, Chg.refl _ _⟩
  case round =>
    obtain ⟨j, K, hj, rfl, hK, rfl, hown, hchg⟩ := hrel
    by_cases hlt : j < l.length
    · rw [mid_at _ _ _ _ _ hlt] at hown
      have hts : (mkL ((l.take j).flatMap DFault.tr) k0).length = j * 3 := by rw [mkL_length, flat_length _ 3 DFault.tr_len, List.length_take, Nat.min_eq_left hj]
      have hsum := cntL_take_succ DFault.tr l j hlt
      have hle := cntL_flat_take_le DFault.tr l (j + 1)
      have hcx := DFault.cntL_tr l[j]
      have hkb : K + (1 + 1 + 1) ≤ 1099511627776 := by omega
      have hkp : 0 < K := by omega
      have hszj := sizL_get_le DFault.tr l j hlt
      have HM := Lib.hid (mid_succ DFault.tr 3 l k0 j hlt)
      have HS := Lib.hid hsum
      have HK := Lib.hid hK
      have HC := Lib.hid hcx
      have HT := Lib.hid hts
      clear hsum hcx hle hK hts
      generalize mkL ((l.take j).flatMap DFault.tr) k0 = TS at *
      generalize (l.drop (j + 1)).flatMap DFault.tr = US at *
      have hin' : In lo wr.heap.size fp := hin.mono (Nat.le_refl _) hchg.size
      have o0 : Own wr (.sl 3 (TS ++ ([.lit (.int .i64 l[j].kind), .lit (.string l[j].who), .lit (.string l[j].what)] ++ US))) (.slice a l.length c) fp := hown
      clear hown
      obtain ⟨b, off, rfl, hbf⟩ := o0.someAddr
      have hbw := (hin' b hbf).2
      have hfz : ∀ i, wr.frozen? ⟨b, i, none⟩ = false := o0.free b hbf
      have z0 : wr.heap.size ≤ wr.heap.size := Nat.le_refl _
      obtain ⟨s0, _⟩ := o0.cellChunk 0 _ rfl (off + j * 3) (by rw [HT.out]; omega)
      obtain ⟨s1, _⟩ := o0.cellChunk 1 _ rfl (off + j * 3 + 1) (by rw [HT.out]; omega)
      obtain ⟨s2, _⟩ := o0.cellChunk 2 _ rfl (off + j * 3 + 2) (by rw [HT.out]; omega)
      have O0 := Lib.hid o0
      have C0 := Lib.hid hchg
      clear o0 hchg
      have O1 := Lib.hid (O0.out.setChunk 0 _ rfl (off + j * 3) (by rw [HT.out]; omega) (.int .i64 ((K : Int))))
      have C1 := Lib.hid (C0.out.setCell (p := ⟨b, off + j * 3, none⟩) hbf (.int .i64 ((K : Int))))
      go_wp2_with fail
      refine (markText_int _ _ (by omega) (by omega)).mono ?_
      rintro e w1 ⟨rfl, hb1⟩
      obtain ⟨qa1, qb1, hbw1⟩ := bcellAt hb1 (b := b) (by simp only [size_setCell]; omega)
      have z1 : wr.heap.size ≤ w1.heap.size := by have := hb1.size; simp only [size_setCell] at this; omega
      have O2 := Lib.hid ((O1.out.below hin' (by simp only [size_setCell]; omega) hb1).setChunk 1 _ rfl (off + j * 3 + 1) (by rw [HT.out]; omega) (.string (mtext (K + 1))))
      have C2 := Lib.hid ((C1.out.trans (Chg.of_below hb1)).setCell (p := ⟨b, off + j * 3 + 1, none⟩) hbf (.string (mtext (K + 1))))
      go_wp2_with fail
      refine (markText_int _ _ (by omega) (by omega)).mono ?_
      rintro e w2 ⟨rfl, hb2⟩
      obtain ⟨qa2, qb2, hbw2⟩ := bcellAt hb2 (b := b) (by simp only [size_setCell]; omega)
      have z2 : wr.heap.size ≤ w2.heap.size := by have := hb2.size; simp only [size_setCell] at this; omega
      have O3 := Lib.hid ((O2.out.below hin' (by simp only [size_setCell]; omega) hb2).setChunk 2 _ rfl (off + j * 3 + 2) (by rw [HT.out]; omega) (.string (mtext (K + 1 + 1))))
      have C3 := Lib.hid ((C2.out.trans (Chg.of_below hb2)).setCell (p := ⟨b, off + j * 3 + 2, none⟩) hbf (.string (mtext (K + 1 + 1))))
      go_wp2
      go_roundw
      case rel =>
        refine ⟨j + 1, K + (1 + 1 + 1), by omega, by go_num, by have := HK.out; have := HS.out; have := HC.out; omega, by go_num, ?_, C3.out⟩
        rw [HM.out, ← HK.out, DFault.mk_tr]
        exact O3.out
      case measure => simp [intOf]; omega
    · obtain rfl : j = l.length := by omega
      have HK := Lib.hid hK
      clear hK
      go_wp2
      go_ret
      rw [mid_end] at hown
      have e := HK.out
      rw [List.take_length] at e
      exact ⟨ret_int (by omega), hown, hchg⟩
theorem markI_FaultS (l : List DFault) (v : Value) (fp : List Nat) (k lo : Nat) (K : Int) (w : World) (h : Own w (DFault.sT l) v fp) (hin : In lo w.heap.size fp) (hs : siz (DFault.sT l) ≤ 1099511627776) (hK : K = (k : Int)) (hk0 : k + cnt (DFault.sT l) ≤ 1099511627776) (hk1 : 0 < k) :
    Calls Try.prog 18 #[v, .int .i64 K] w fun e w' => e = .returned (.int .i64 (K + (cnt (DFault.sT l) : Int))) ∧ Own w' (mkT (DFault.sT l) k) v fp ∧ Chg fp w w' := by
  subst hK
  refine (mark_FaultS l v fp k lo w h hin hs hk0 hk1).mono fun e w' ⟨he, h1, h2⟩ => ⟨?_, h1, h2⟩
  rw [he, Int.natCast_add]
end Go.Proofs.Ytnnfdbkombmgbaa
