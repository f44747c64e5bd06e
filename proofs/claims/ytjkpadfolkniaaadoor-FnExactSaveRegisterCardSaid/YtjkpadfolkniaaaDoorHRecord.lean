/- Contracts of the laws' helpers over the type Record and slices of it. Conditions: bounded lengths. -/
import Derived.Test.YtjkpadfolkniaaaDoorInts2
import Derived.Test.YtjkpadfolkniaaaDoorTypes
import Derived.Test.YtjkpadfolkniaaaDoorOver
namespace Go.Proofs.YtjkpadfolkniaaaDoor
open Go.RowKit
set_option linter.unusedVariables false

theorem DRecord.siz_tr (x : DRecord) : sizL x.tr = x.key.size + x.value.size := by simp [DRecord.tr, sizL, siz, strT] <;> omega
theorem sz_Record (x : DRecord) (B : Nat) (left : Int) (w : World) (hB : B ≤ w.heap.size) (hl : 0 ≤ left) (hl2 : left ≤ 1048576) (hok : x.ok) :
    Calls Tryd.prog 20 #[.agg #[.string x.key, .string x.value], .int .i64 left] w (SzPost (sizL x.tr) left w) := by
  rw [DRecord.siz_tr]
  have hs0 := hok.key
  have hs1 := hok.value
  unfold maxLen at hs0 hs1
  clear hok
  go_enter Tryd.func20, Tryd.ntmps20
  go_wp2
  all_goals go_ret
  all_goals first | exact ⟨Or.inl ⟨by omega, ret_int (by omega)⟩, (Below.refl _ _).alloc (Nat.le_refl _) _⟩ | exact ⟨Or.inr ⟨by omega, rfl⟩, (Below.refl _ _).alloc (Nat.le_refl _) _⟩
theorem to_Record (x : DRecord) (w : World) :
    Calls Tryd.prog 28 #[.agg #[.string x.key, .string x.value]] w fun e w' => e = .returned (.agg #[.string x.key, .string x.value]) ∧ Below w.heap.size w w' := by
  go_enter Tryd.func28, Tryd.ntmps28
  go_wp2
  exact bodyPost_ret (v := .agg #[.string x.key, .string x.value]) (by simp [results, Tryd.results28, go_sem]) rfl ⟨rfl, (((Below.refl _ _).alloc (Nat.le_refl _) _).alloc (by simp) _).alloc (by simp; omega) _⟩
theorem eq_Record (x : DRecord) (w : World) :
    Calls Tryd.prog 35 #[.agg #[.string x.key, .string x.value], .agg #[.string x.key, .string x.value]] w fun e w' => e = .returned (.bool true) ∧ Below w.heap.size w w' := by
  go_enter Tryd.func35, Tryd.ntmps35
  go_wp2
  go_ret
  exact ⟨rfl, ((Below.refl _ _).alloc (Nat.le_refl _) _).alloc (by simp) _⟩
theorem DRecord.sT_eq (l : List DRecord) : DRecord.sT l = .sl 2 (l.flatMap DRecord.tr) := rfl
theorem DRecord.siz_s (l : List DRecord) : siz (DRecord.sT l) = l.length + sizL (l.flatMap DRecord.tr) := siz_flat DRecord.tr 2 (by decide) DRecord.tr_len l
theorem DRecord.cnt_tr (x : DRecord) : cntL x.tr = 2 := by simp only [DRecord.tr, cntL, cnt, strT]
set_option maxHeartbeats 2000000 in
set_option maxRecDepth 100000 in
theorem sz_RecordS (l : List DRecord) (v : Value) (B : Nat) (left : Int) (w : World) (h : Rd B w (DRecord.sT l) v) (hB : B ≤ w.heap.size) (hl : 0 ≤ left) (hl2 : left ≤ 1048576) (hstr : ∀ x ∈ l, x.ok) :
    Calls Tryd.prog 9 #[v, .int .i64 left] w (SzPost (siz (DRecord.sT l)) left w) := by
  rw [DRecord.siz_s]
  obtain ⟨a, c, rfl, hnc, hcm, hcells⟩ := DRecord.rd h
  clear h
  unfold maxLen at hcm
  by_cases c1 : (l.length : Int) ≤ left
  · have c1' : decide (left - (l.length : Int) < 0) = false := by simp; omega
    go_enter Tryd.func9, Tryd.ntmps9
    go_wp2
    go_loopw [1, 5] (fun m i wr => ∃ (k : Nat), k ≤ l.length ∧ i = .int .i64 k ∧ (sizL ((l.take k).flatMap DRecord.tr) : Int) ≤ left - l.length ∧ m = .int .i64 (left - l.length - sizL ((l.take k).flatMap DRecord.tr)) ∧ Below w.heap.size w wr) (fun _ i wr => l.length - (intOf i).toNat)
    case atStart => exact ⟨0, Nat.zero_le _, rfl, by simp [sizL]; omega, by simp [sizL], Below.refl _ _⟩
    case round =>
      obtain ⟨k, hk, rfl, hm, rfl, hb⟩ := hrel
      by_cases hlt : k < l.length
      · obtain ⟨b, off, rfl, hbl, hat⟩ := hcells (by omega)
        obtain ⟨s0, s1⟩ := hat k hlt
        rw [← hb.cell (p := ⟨b, _, none⟩) (show b < w.heap.size by omega)] at s0 s1

        have hB' : B ≤ wr.heap.size := by have := hb.size; omega
        have hok := hstr l[k] (List.getElem_mem hlt)
        have hsum := sizL_take_succ DRecord.tr l k hlt
        have hle := sizL_take_le DRecord.tr l (k + 1)
        have HS := Lib.hid hsum
        have HB := Lib.hid hb
        clear hcells hat hb hsum hstr 
        go_wp2_with (go_at_call 20; refine (sz_Record l[k]  B _ _  hB' (by omega) (by omega) hok).mono ?_; rintro e w1 ⟨⟨c2, rfl⟩ | ⟨c2, rfl⟩, hb1⟩)
        · have c3 : decide (left - l.length - sizL ((l.take k).flatMap DRecord.tr) - sizL l[k].tr < 0) = false := by simp; omega
          go_wp2
          go_roundw
          case rel => exact ⟨k + 1, by omega, by go_num, by rw [HS.out]; omega, by rw [HS.out]; go_num, HB.out.trans (hb1.mono HB.out.size)⟩
          case measure => simp [intOf]; omega
        · go_wp2
          go_ret
          exact ⟨Or.inr ⟨by have := HS.out; omega, rfl⟩, HB.out.trans (hb1.mono HB.out.size)⟩
      · obtain rfl : k = l.length := by omega
        clear hcells
        rw [List.take_length] at hm
        go_wp2
        go_ret
        refine ⟨Or.inl ⟨by omega, ret_int ?_⟩, hb⟩
        simp only [List.take_length]
        omega
  · have c1' : decide (left - (l.length : Int) < 0) = true := by simp; omega
    go_enter Tryd.func9, Tryd.ntmps9
    go_wp2
    go_ret
    exact ⟨Or.inr ⟨by omega, rfl⟩, Below.refl _ _⟩
theorem infoRecord : (Tryd.prog.info? 61).map (fun i => (i.zero, i.size, i.bytes)) = some (some (.agg #[.string ⟨#[]⟩, .string ⟨#[]⟩]), 2, 32) := by kernel_rfl
set_option maxHeartbeats 2000000 in
set_option maxRecDepth 100000 in
theorem to_RecordS (l : List DRecord) (v : Value) (w : World) (h : Rd w.heap.size w (DRecord.sT l) v) (hn : siz (DRecord.sT l) ≤ 1048576) :
    Calls Tryd.prog 13 #[v] w fun e w' => ∃ a' c' fp, e = .returned (.slice a' l.length c') ∧ Below w.heap.size w w' ∧ Own w' (DRecord.sT l) (.slice a' l.length c') fp ∧ In w.heap.size w'.heap.size fp := by
  rw [DRecord.siz_s] at hn
  obtain ⟨i0, hi0, hz0, hz1, hz2⟩ := info_parts infoRecord
  have hmk := fun W => run_make_rowN (P := Tryd.prog) 29 61 i0 _ Tryd.underlying29 hi0 hz0 .i64 .i64 l.length l.length (Nat.le_refl _) (by rw [hz2]; omega) (by omega) W
  rw [hz1] at hmk
  have hnb : (l.length : Int) ≤ 1048576 := by omega
  obtain ⟨a, c, rfl, hnc, hcm, hcells⟩ := DRecord.rd h
  clear h
  go_enter Tryd.func13, Tryd.ntmps13
  go_wp2
  clear hmk hi0 hz0 hz1 hz2
  go_loopw [4] (fun i wr => ∃ (k : Nat) (f : List Nat), k ≤ l.length ∧ i = .int .i64 k ∧ Below w.heap.size w wr ∧ Fill wr w.heap.size 61 (l.length * 2) ((l.take k).flatMap DRecord.tr) f ∧ In w.heap.size wr.heap.size f) (fun i wr => l.length - (intOf i).toNat)
  case atStart =>
    have hst := Fill.start w (madeCells #[.string ⟨#[]⟩, .string ⟨#[]⟩] (l.length * 2)) 61
    rw [size_madeCells] at hst
    exact ⟨0, [], Nat.zero_le _, rfl, (Below.refl _ _).alloc (Nat.le_refl _) _, by simpa using hst, In.nil⟩
  case round =>
    obtain ⟨k, f, hk, rfl, hb, hfill, hin⟩ := hrel
    by_cases hlt : k < l.length
    · obtain ⟨b, off, rfl, hbl, hat⟩ := hcells (by omega)
      obtain ⟨s0, s1⟩ := hat k hlt
      rw [← hb.cell (p := ⟨b, _, none⟩) hbl] at s0 s1
      have hz := hfill.lt
      have hz2 : b < wr.heap.size := by omega
      obtain ⟨o0, p0⟩ := hfill.room (k * 2) (by omega)
      obtain ⟨o1, p1⟩ := hfill.room (k * 2 + 1) (by omega)
      have hfz := hfill.open_
      have hsl := sizL_get_le DRecord.tr l k hlt
      have HB := Lib.hid hb
      clear hcells hat hb 
      go_wp2_with (go_at_call 28; refine (to_Record l[k] _).mono ?_; rintro e w1 ⟨rfl, hb1⟩; obtain ⟨q1, q2⟩ := bcell hb1)
      go_roundw
      case rel =>
        have hw1 := hfill.below hin hb1
        have hst := hw1.step (us := l[k].tr) (vs := [.string l[k].key, .string l[k].value]) (g := []) (RepV.lits [.string l[k].key, .string l[k].value]) (by rw [flat_length _ 2 DRecord.tr_len]; simp; omega) List.nodup_nil (by simp) (by simp) (fun b h => by simp at h)
        rw [flat_length _ 2 DRecord.tr_len, List.length_take, Nat.min_eq_left hk, List.append_nil, ← flat_take_succ DRecord.tr l k hlt] at hst
        exact ⟨k + 1, f, by omega, by go_num, below_setRow (HB.out.trans (hb1.mono (by omega))) (Nat.le_refl _) [.string l[k].key, .string l[k].value] (k * 2), hst, fun x hx => ⟨(hin x hx).1, by have := (hin x hx).2; have := hb1.size; simp only [size_setCell]; omega⟩⟩
      case measure => simp [intOf]; omega
    · obtain rfl : k = l.length := by omega
      clear hcells
      go_wp2
      go_ret
      rw [List.take_length] at hfill
      obtain ⟨fp, h1, h2⟩ := hfill.own (flat_length _ 2 DRecord.tr_len l) (by unfold maxLen; omega)
      exact ⟨_, _, fp, rfl, hb, h1, fun x hx => by rcases h2 x hx with rfl | h; exact ⟨Nat.le_refl _, hfill.lt⟩; exact hin x h⟩
set_option maxHeartbeats 2000000 in
set_option maxRecDepth 100000 in
theorem eq_RecordS (l : List DRecord) (v v' : Value) (B : Nat) (w : World) (h : Rd B w (DRecord.sT l) v) (h' : Rd B w (DRecord.sT l) v') (hB : B ≤ w.heap.size) (hn : siz (DRecord.sT l) ≤ 1099511627776) :
    Calls Tryd.prog 18 #[v, v'] w fun e w' => e = .returned (.bool true) ∧ Below w.heap.size w w' := by
  rw [DRecord.siz_s] at hn
  have hnb : (l.length : Int) ≤ 1099511627776 := by omega
  obtain ⟨a, c, rfl, hnc, hcm, hcells⟩ := DRecord.rd h
  obtain ⟨a', c', rfl, hnc', hcm', hcells'⟩ := DRecord.rd h'
  clear h h'
  have hne : ((l.length : Int) != l.length) = false := by simp
  go_enter Tryd.func18, Tryd.ntmps18
  go_wp2
  clear hne
  go_loopw [5] (fun i wr => ∃ (k : Nat), k ≤ l.length ∧ i = .int .i64 k ∧ Below w.heap.size w wr) (fun i wr => l.length - (intOf i).toNat)
  case atStart => exact ⟨0, Nat.zero_le _, rfl, Below.refl _ _⟩
  case round =>
    obtain ⟨k, hk, rfl, hb⟩ := hrel
    by_cases hlt : k < l.length
    · obtain ⟨b, off, rfl, hbl, hat⟩ := hcells (by omega)
      obtain ⟨b', off', rfl, hbl', hat'⟩ := hcells' (by omega)
      obtain ⟨s0, s1⟩ := hat k hlt
      obtain ⟨sb0, sb1⟩ := hat' k hlt
      rw [← hb.cell (p := ⟨b, _, none⟩) (show b < w.heap.size by omega)] at s0 s1
      rw [← hb.cell (p := ⟨b', _, none⟩) (show b' < w.heap.size by omega)] at sb0 sb1
      have hB' : B ≤ wr.heap.size := by have := hb.size; omega
      have hsl := sizL_get_le DRecord.tr l k hlt
      have i1 : (0 : Int) ≤ (k : Int) := by omega
      have i2 : (k : Int) < (l.length : Int) := by omega
      have HB := Lib.hid hb
      clear hcells hat hcells' hat' hb 
      go_wp2
      go_still_tail 8, (by kernel_rfl)
      change wpList _ _ _ _ _ wr.drew
      go_wp2_with (go_at_call 35; refine (eq_Record l[k]   _  ).mono ?_; rintro e w1 ⟨rfl, hb1⟩)
      go_roundw
      case rel => exact ⟨k + 1, by omega, by go_num, HB.out.drew.trans (hb1.mono HB.out.size)⟩
      case measure => simp [intOf]; omega
    · obtain rfl : k = l.length := by omega
      clear hcells hcells'
      go_wp2
      go_ret
      exact ⟨rfl, hb⟩
theorem DRecord.mk_tr (x : DRecord) (K : Nat) : mkL x.tr K = [.lit (.string (mtext (K))), .lit (.string (mtext (K + 1)))] := rfl
theorem DRecord.cntL_tr (x : DRecord) : cntL x.tr = 1 + 1 := by rfl
end Go.Proofs.YtjkpadfolkniaaaDoor
