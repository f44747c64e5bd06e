/- Contracts of the laws' helpers over the type Change and slices of it. Conditions: bounded lengths. -/
import Derived.Test.YtjkpadfolkniaaaDoorInts2
import Derived.Test.YtjkpadfolkniaaaDoorTypes
import Derived.Test.YtjkpadfolkniaaaDoorOver
namespace Go.Proofs.YtjkpadfolkniaaaDoor
open Go.RowKit
set_option linter.unusedVariables false

theorem DChange.siz_tr (x : DChange) : sizL x.tr = x.key.size + x.old_.size + x.new_.size := by simp [DChange.tr, sizL, siz, intT, strT] <;> omega
theorem sz_Change (x : DChange) (B : Nat) (left : Int) (w : World) (hB : B ≤ w.heap.size) (hl : 0 ≤ left) (hl2 : left ≤ 1048576) (hok : x.ok) :
    Calls Tryd.prog 21 #[.agg #[.int .i64 x.day, .string x.key, .string x.old_, .string x.new_], .int .i64 left] w (SzPost (sizL x.tr) left w) := by
  rw [DChange.siz_tr]
  have hs0 := hok.key
  have hs1 := hok.old_
  have hs2 := hok.new_
  unfold maxLen at hs0 hs1 hs2
  clear hok
  go_enter Tryd.func21, Tryd.ntmps21
  go_wp2
  all_goals go_ret
  all_goals first | exact ⟨Or.inl ⟨by omega, ret_int (by omega)⟩, (Below.refl _ _).alloc (Nat.le_refl _) _⟩ | exact ⟨Or.inr ⟨by omega, rfl⟩, (Below.refl _ _).alloc (Nat.le_refl _) _⟩
theorem to_Change (x : DChange) (w : World) :
    Calls Tryd.prog 29 #[.agg #[.int .i64 x.day, .string x.key, .string x.old_, .string x.new_]] w fun e w' => e = .returned (.agg #[.int .i64 x.day, .string x.key, .string x.old_, .string x.new_]) ∧ Below w.heap.size w w' := by
  go_enter Tryd.func29, Tryd.ntmps29
  go_wp2
  exact bodyPost_ret (v := .agg #[.int .i64 x.day, .string x.key, .string x.old_, .string x.new_]) (by simp [results, Tryd.results29, go_sem]) rfl ⟨rfl, (((Below.refl _ _).alloc (Nat.le_refl _) _).alloc (by simp) _).alloc (by simp; omega) _⟩
theorem eq_Change (x : DChange) (w : World) :
    Calls Tryd.prog 36 #[.agg #[.int .i64 x.day, .string x.key, .string x.old_, .string x.new_], .agg #[.int .i64 x.day, .string x.key, .string x.old_, .string x.new_]] w fun e w' => e = .returned (.bool true) ∧ Below w.heap.size w w' := by
  go_enter Tryd.func36, Tryd.ntmps36
  go_wp2
  go_ret
  exact ⟨rfl, ((Below.refl _ _).alloc (Nat.le_refl _) _).alloc (by simp) _⟩
theorem DChange.sT_eq (l : List DChange) : DChange.sT l = .sl 4 (l.flatMap DChange.tr) := rfl
theorem DChange.siz_s (l : List DChange) : siz (DChange.sT l) = l.length + sizL (l.flatMap DChange.tr) := siz_flat DChange.tr 4 (by decide) DChange.tr_len l
theorem DChange.cnt_tr (x : DChange) : cntL x.tr = 4 := by simp only [DChange.tr, cntL, cnt, intT, strT]
set_option maxHeartbeats 2000000 in
set_option maxRecDepth 100000 in
theorem sz_ChangeS (l : List DChange) (v : Value) (B : Nat) (left : Int) (w : World) (h : Rd B w (DChange.sT l) v) (hB : B ≤ w.heap.size) (hl : 0 ≤ left) (hl2 : left ≤ 1048576) (hstr : ∀ x ∈ l, x.ok) :
    Calls Tryd.prog 10 #[v, .int .i64 left] w (SzPost (siz (DChange.sT l)) left w) := by
  rw [DChange.siz_s]
  obtain ⟨a, c, rfl, hnc, hcm, hcells⟩ := DChange.rd h
  clear h
  unfold maxLen at hcm
  by_cases c1 : (l.length : Int) ≤ left
  · have c1' : decide (left - (l.length : Int) < 0) = false := by simp; omega
    go_enter Tryd.func10, Tryd.ntmps10
    go_wp2
    go_loopw [1, 5] (fun m i wr => ∃ (k : Nat), k ≤ l.length ∧ i = .int .i64 k ∧ (sizL ((l.take k).flatMap DChange.tr) : Int) ≤ left - l.length ∧ m = .int .i64 (left - l.length - sizL ((l.take k).flatMap DChange.tr)) ∧ Below w.heap.size w wr) (fun _ i wr => l.length - (intOf i).toNat)
    case atStart => exact ⟨0, Nat.zero_le _, rfl, by simp [sizL]; omega, by simp [sizL], Below.refl _ _⟩
    case round =>
      obtain ⟨k, hk, rfl, hm, rfl, hb⟩ := hrel
      by_cases hlt : k < l.length
      · obtain ⟨b, off, rfl, hbl, hat⟩ := hcells (by omega)
        obtain ⟨s0, s1, s2, s3⟩ := hat k hlt
        rw [← hb.cell (p := ⟨b, _, none⟩) (show b < w.heap.size by omega)] at s0 s1 s2 s3

        have hB' : B ≤ wr.heap.size := by have := hb.size; omega
        have hok := hstr l[k] (List.getElem_mem hlt)
        have hsum := sizL_take_succ DChange.tr l k hlt
        have hle := sizL_take_le DChange.tr l (k + 1)
        have HS := Lib.hid hsum
        have HB := Lib.hid hb
        clear hcells hat hb hsum hstr 
        go_wp2_with (go_at_call 21; refine (sz_Change l[k]  B _ _  hB' (by omega) (by omega) hok).mono ?_; rintro e w1 ⟨⟨c2, rfl⟩ | ⟨c2, rfl⟩, hb1⟩)
        · have c3 : decide (left - l.length - sizL ((l.take k).flatMap DChange.tr) - sizL l[k].tr < 0) = false := by simp; omega
          go_wp2
          go_roundw
          case rel => exact ⟨k + 1, by omega, by go_num, by rw [HS.out]; omega, by rw [HS.out]; go_num, HB.out.trans (hb1.mono HB.out.size)⟩
          case measure => simp [intOf]; omega
        · go_wp2
          go_ret
          exact ⟨Or.inr ⟨by have := HS.out; omega, rfl⟩, HB.out.trans (hb1.mono HB.out.size)⟩
      · obtain rfl : k = l.length := by omega
        clear hcells
        rw [List.take_length] at hm
        go_wp2
        go_ret
        refine ⟨Or.inl ⟨by omega, ret_int ?_⟩, hb⟩
        simp only [List.take_length]
        omega
  · have c1' : decide (left - (l.length : Int) < 0) = true := by simp; omega
    go_enter Tryd.func10, Tryd.ntmps10
    go_wp2
    go_ret
    exact ⟨Or.inr ⟨by omega, rfl⟩, Below.refl _ _⟩
theorem infoChange : (Tryd.prog.info? 46).map (fun i => (i.zero, i.size, i.bytes)) = some (some (.agg #[.int .i64 0, .string ⟨#[]⟩, .string ⟨#[]⟩, .string ⟨#[]⟩]), 4, 56) := by kernel_rfl
set_option maxHeartbeats 2000000 in
set_option maxRecDepth 100000 in
theorem to_ChangeS (l : List DChange) (v : Value) (w : World) (h : Rd w.heap.size w (DChange.sT l) v) (hn : siz (DChange.sT l) ≤ 1048576) :
    Calls Tryd.prog 14 #[v] w fun e w' => ∃ a' c' fp, e = .returned (.slice a' l.length c') ∧ Below w.heap.size w w' ∧ Own w' (DChange.sT l) (.slice a' l.length c') fp ∧ In w.heap.size w'.heap.size fp := by
  rw [DChange.siz_s] at hn
  obtain ⟨i0, hi0, hz0, hz1, hz2⟩ := info_parts infoChange
  have hmk := fun W => run_make_rowN (P := Tryd.prog) 30 46 i0 _ Tryd.underlying30 hi0 hz0 .i64 .i64 l.length l.length (Nat.le_refl _) (by rw [hz2]; omega) (by omega) W
  rw [hz1] at hmk
  have hnb : (l.length : Int) ≤ 1048576 := by omega
  obtain ⟨a, c, rfl, hnc, hcm, hcells⟩ := DChange.rd h
  clear h
  go_enter Tryd.func14, Tryd.ntmps14
  go_wp2
  clear hmk hi0 hz0 hz1 hz2
  go_loopw [4] (fun i wr => ∃ (k : Nat) (f : List Nat), k ≤ l.length ∧ i = .int .i64 k ∧ Below w.heap.size w wr ∧ Fill wr w.heap.size 46 (l.length * 4) ((l.take k).flatMap DChange.tr) f ∧ In w.heap.size wr.heap.size f) (fun i wr => l.length - (intOf i).toNat)
  case atStart =>
    have hst := Fill.start w (madeCells #[.int .i64 0, .string ⟨#[]⟩, .string ⟨#[]⟩, .string ⟨#[]⟩] (l.length * 4)) 46
    rw [size_madeCells] at hst
    exact ⟨0, [], Nat.zero_le _, rfl, (Below.refl _ _).alloc (Nat.le_refl _) _, by simpa using hst, In.nil⟩
  case round =>
    obtain ⟨k, f, hk, rfl, hb, hfill, hin⟩ := hrel
    by_cases hlt : k < l.length
    · obtain ⟨b, off, rfl, hbl, hat⟩ := hcells (by omega)
      obtain ⟨s0, s1, s2, s3⟩ := hat k hlt
      rw [← hb.cell (p := ⟨b, _, none⟩) hbl] at s0 s1 s2 s3
      have hz := hfill.lt
      have hz2 : b < wr.heap.size := by omega
      obtain ⟨o0, p0⟩ := hfill.room (k * 4) (by omega)
      obtain ⟨o1, p1⟩ := hfill.room (k * 4 + 1) (by omega)
      obtain ⟨o2, p2⟩ := hfill.room (k * 4 + 2) (by omega)
      obtain ⟨o3, p3⟩ := hfill.room (k * 4 + 3) (by omega)
      have hfz := hfill.open_
      have hsl := sizL_get_le DChange.tr l k hlt
      have HB := Lib.hid hb
      clear hcells hat hb 
      go_wp2_with (go_at_call 29; refine (to_Change l[k] _).mono ?_; rintro e w1 ⟨rfl, hb1⟩; obtain ⟨q1, q2⟩ := bcell hb1)
      go_roundw
      case rel =>
        have hw1 := hfill.below hin hb1
        have hst := hw1.step (us := l[k].tr) (vs := [.int .i64 l[k].day, .string l[k].key, .string l[k].old_, .string l[k].new_]) (g := []) (RepV.lits [.int .i64 l[k].day, .string l[k].key, .string l[k].old_, .string l[k].new_]) (by rw [flat_length _ 4 DChange.tr_len]; simp; omega) List.nodup_nil (by simp) (by simp) (fun b h => by simp at h)
        rw [flat_length _ 4 DChange.tr_len, List.length_take, Nat.min_eq_left hk, List.append_nil, ← flat_take_succ DChange.tr l k hlt] at hst
        exact ⟨k + 1, f, by omega, by go_num, below_setRow (HB.out.trans (hb1.mono (by omega))) (Nat.le_refl _) [.int .i64 l[k].day, .string l[k].key, .string l[k].old_, .string l[k].new_] (k * 4), hst, fun x hx => ⟨(hin x hx).1, by have := (hin x hx).2; have := hb1.size; simp only [size_setCell]; omega⟩⟩
      case measure => simp [intOf]; omega
    · obtain rfl : k = l.length := by omega
      clear hcells
      go_wp2
      go_ret
      rw [List.take_length] at hfill
      obtain ⟨fp, h1, h2⟩ := hfill.own (flat_length _ 4 DChange.tr_len l) (by unfold maxLen; omega)
      exact ⟨_, _, fp, rfl, hb, h1, fun x hx => by rcases h2 x hx with rfl | h; exact ⟨Nat.le_refl _, hfill.lt⟩; exact hin x h⟩
set_option maxHeartbeats 2000000 in
set_option maxRecDepth 100000 in
theorem eq_ChangeS (l : List DChange) (v v' : Value) (B : Nat) (w : World) (h : Rd B w (DChange.sT l) v) (h' : Rd B w (DChange.sT l) v') (hB : B ≤ w.heap.size) (hn : siz (DChange.sT l) ≤ 1099511627776) :
    Calls Tryd.prog 19 #[v, v'] w fun e w' => e = .returned (.bool true) ∧ Below w.heap.size w w' := by
  rw [DChange.siz_s] at hn
  have hnb : (l.length : Int) ≤ 1099511627776 := by omega
  obtain ⟨a, c, rfl, hnc, hcm, hcells⟩ := DChange.rd h
  obtain ⟨a', c', rfl, hnc', hcm', hcells'⟩ := DChange.rd h'
  clear h h'
  have hne : ((l.length : Int) != l.length) = false := by simp
  go_enter Tryd.func19, Tryd.ntmps19
  go_wp2
  clear hne
  go_loopw [5] (fun i wr => ∃ (k : Nat), k ≤ l.length ∧ i = .int .i64 k ∧ Below w.heap.size w wr) (fun i wr => l.length - (intOf i).toNat)
  case atStart => exact ⟨0, Nat.zero_le _, rfl, Below.refl _ _⟩
  case round =>
    obtain ⟨k, hk, rfl, hb⟩ := hrel
    by_cases hlt : k < l.length
    · obtain ⟨b, off, rfl, hbl, hat⟩ := hcells (by omega)
      obtain ⟨b', off', rfl, hbl', hat'⟩ := hcells' (by omega)
      obtain ⟨s0, s1, s2, s3⟩ := hat k hlt
      obtain ⟨sb0, sb1, sb2, sb3⟩ := hat' k hlt
      rw [← hb.cell (p := ⟨b, _, none⟩) (show b < w.heap.size by omega)] at s0 s1 s2 s3
      rw [← hb.cell (p := ⟨b', _, none⟩) (show b' < w.heap.size by omega)] at sb0 sb1 sb2 sb3
      have hB' : B ≤ wr.heap.size := by have := hb.size; omega
      have hsl := sizL_get_le DChange.tr l k hlt
      have i1 : (0 : Int) ≤ (k : Int) := by omega
      have i2 : (k : Int) < (l.length : Int) := by omega
      have HB := Lib.hid hb
      clear hcells hat hcells' hat' hb 
      go_wp2
      go_still_tail 8, (by kernel_rfl)
      change wpList _ _ _ _ _ wr.drew
      go_wp2_with (go_at_call 36; refine (eq_Change l[k]   _  ).mono ?_; rintro e w1 ⟨rfl, hb1⟩)
      go_roundw
      case rel => exact ⟨k + 1, by omega, by go_num, HB.out.drew.trans (hb1.mono HB.out.size)⟩
      case measure => simp [intOf]; omega
    · obtain rfl : k = l.length := by omega
      clear hcells hcells'
      go_wp2
      go_ret
      exact ⟨rfl, hb⟩
theorem DChange.mk_tr (x : DChange) (K : Nat) : mkL x.tr K = [.lit (.int .i64 ((K : Int))), .lit (.string (mtext (K + 1))), .lit (.string (mtext (K + 1 + 1))), .lit (.string (mtext (K + 1 + 1 + 1)))] := rfl
theorem DChange.cntL_tr (x : DChange) : cntL x.tr = 1 + 1 + 1 + 1 := by rfl
end Go.Proofs.YtjkpadfolkniaaaDoor
