/- Contracts of the laws' helpers over the type Request and slices of it. Conditions: bounded lengths. -/
import Derived.Test.YtjfmkmcefnidcaaGreatInts2
import Derived.Test.YtjfmkmcefnidcaaGreatTypes
import Derived.Test.YtjfmkmcefnidcaaGreatText
import Derived.Test.YtjfmkmcefnidcaaGreatOver
namespace Go.Proofs.YtjfmkmcefnidcaaGreat
open Go.RowKit
set_option linter.unusedVariables false

theorem DRequest.siz_tr (x : DRequest) : sizL x.tr = x.id.size + x.applicant.size + x.partner.size := by simp [DRequest.tr, sizL, siz, intT, strT] <;> omega
theorem sz_Request (x : DRequest) (B : Nat) (left : Int) (w : World) (hB : B ≤ w.heap.size) (hl : 0 ≤ left) (hl2 : left ≤ 1048576) (hok : x.ok) :
    Calls Tryz.prog 72 #[.agg #[.string x.id, .string x.applicant, .string x.partner, .int .i64 x.low, .int .i64 x.high, .int .i64 x.filed, .int .i64 x.deadline, .int .i64 x.state], .int .i64 left] w (SzPost (sizL x.tr) left w) := by
  rw [DRequest.siz_tr]
  have hs0 := hok.id
  have hs1 := hok.applicant
  have hs2 := hok.partner
  unfold maxLen at hs0 hs1 hs2
  clear hok
  go_enter Tryz.func72, Tryz.ntmps72
  go_wp2
  all_goals go_ret
  all_goals first | exact ⟨Or.inl ⟨by omega, ret_int (by omega)⟩, (Below.refl _ _).alloc (Nat.le_refl _) _⟩ | exact ⟨Or.inr ⟨by omega, rfl⟩, (Below.refl _ _).alloc (Nat.le_refl _) _⟩
theorem to_Request (x : DRequest) (w : World) :
    Calls Tryz.prog 75 #[.agg #[.string x.id, .string x.applicant, .string x.partner, .int .i64 x.low, .int .i64 x.high, .int .i64 x.filed, .int .i64 x.deadline, .int .i64 x.state]] w fun e w' => e = .returned (.agg #[.string x.id, .string x.applicant, .string x.partner, .int .i64 x.low, .int .i64 x.high, .int .i64 x.filed, .int .i64 x.deadline, .int .i64 x.state]) ∧ Below w.heap.size w w' := by
  go_enter Tryz.func75, Tryz.ntmps75
  go_wp2
  exact bodyPost_ret (v := .agg #[.string x.id, .string x.applicant, .string x.partner, .int .i64 x.low, .int .i64 x.high, .int .i64 x.filed, .int .i64 x.deadline, .int .i64 x.state]) (by simp [results, Tryz.results75, go_sem]) rfl ⟨rfl, (((Below.refl _ _).alloc (Nat.le_refl _) _).alloc (by simp) _).alloc (by simp; omega) _⟩
theorem eq_Request (x : DRequest) (w : World) :
    Calls Tryz.prog 82 #[.agg #[.string x.id, .string x.applicant, .string x.partner, .int .i64 x.low, .int .i64 x.high, .int .i64 x.filed, .int .i64 x.deadline, .int .i64 x.state], .agg #[.string x.id, .string x.applicant, .string x.partner, .int .i64 x.low, .int .i64 x.high, .int .i64 x.filed, .int .i64 x.deadline, .int .i64 x.state]] w fun e w' => e = .returned (.bool true) ∧ Below w.heap.size w w' := by
  go_enter Tryz.func82, Tryz.ntmps82
  go_wp2
  go_ret
  exact ⟨rfl, ((Below.refl _ _).alloc (Nat.le_refl _) _).alloc (by simp) _⟩
theorem DRequest.sT_eq (l : List DRequest) : DRequest.sT l = .sl 8 (l.flatMap DRequest.tr) := rfl
theorem DRequest.siz_s (l : List DRequest) : siz (DRequest.sT l) = l.length + sizL (l.flatMap DRequest.tr) := siz_flat DRequest.tr 8 (by decide) DRequest.tr_len l
theorem DRequest.cnt_tr (x : DRequest) : cntL x.tr = 8 := by simp only [DRequest.tr, cntL, cnt, intT, strT]
set_option maxHeartbeats 2000000 in
set_option maxRecDepth 100000 in
theorem sz_RequestS (l : List DRequest) (v : Value) (B : Nat) (left : Int) (w : World) (h : Rd B w (DRequest.sT l) v) (hB : B ≤ w.heap.size) (hl : 0 ≤ left) (hl2 : left ≤ 1048576) (hstr : ∀ x ∈ l, x.ok) :
    Calls Tryz.prog 22 #[v, .int .i64 left] w (SzPost (siz (DRequest.sT l)) left w) := by
  rw [DRequest.siz_s]
  obtain ⟨a, c, rfl, hnc, hcm, hcells⟩ := DRequest.rd h
  clear h
  unfold maxLen at hcm
  by_cases c1 : (l.length : Int) ≤ left
  · have c1' : decide (left - (l.length : Int) < 0) = false := by simp; omega
    go_enter Tryz.func22, Tryz.ntmps22
    go_wp2
    go_loopw [1, 5] (fun m i wr => ∃ (k : Nat), k ≤ l.length ∧ i = .int .i64 k ∧ (sizL ((l.take k).flatMap DRequest.tr) : Int) ≤ left - l.length ∧ m = .int .i64 (left - l.length - sizL ((l.take k).flatMap DRequest.tr)) ∧ Below w.heap.size w wr) (fun _ i wr => l.length - (intOf i).toNat)
    case atStart => exact ⟨0, Nat.zero_le _, rfl, by simp [sizL]; omega, by simp [sizL], Below.refl _ _⟩
    case round =>
      obtain ⟨k, hk, rfl, hm, rfl, hb⟩ := hrel
      by_cases hlt : k < l.length
      · obtain ⟨b, off, rfl, hbl, hat⟩ := hcells (by omega)
        obtain ⟨s0, s1, s2, s3, s4, s5, s6, s7⟩ := hat k hlt
        rw [← hb.cell (p := ⟨b, _, none⟩) (show b < w.heap.size by omega)] at s0 s1 s2 s3 s4 s5 s6 s7

        have hB' : B ≤ wr.heap.size := by have := hb.size; omega
        have hok := hstr l[k] (List.getElem_mem hlt)
        have hsum := sizL_take_succ DRequest.tr l k hlt
        have hle := sizL_take_le DRequest.tr l (k + 1)
        have HS := Lib.hid hsum
        have HB := Lib.hid hb
        clear hcells hat hb hsum hstr 
        go_wp2_with (go_at_call 72; refine (sz_Request l[k]  B _ _  hB' (by omega) (by omega) hok).mono ?_; rintro e w1 ⟨⟨c2, rfl⟩ | ⟨c2, rfl⟩, hb1⟩)
        · have c3 : decide (left - l.length - sizL ((l.take k).flatMap DRequest.tr) - sizL l[k].tr < 0) = false := by simp; omega
          go_wp2
          go_roundw
          case rel => exact ⟨k + 1, by omega, by go_num, by rw [HS.out]; omega, by rw [HS.out]; go_num, HB.out.trans (hb1.mono HB.out.size)⟩
          case measure => simp [intOf]; omega
        · go_wp2
          go_ret
          exact ⟨Or.inr ⟨by have := HS.out; omega, rfl⟩, HB.out.trans (hb1.mono HB.out.size)⟩
      · obtain rfl : k = l.length := by omega
        clear hcells
        rw [List.take_length] at hm
        go_wp2
        go_ret
        refine ⟨Or.inl ⟨by omega, ret_int ?_⟩, hb⟩
        simp only [List.take_length]
        omega
  · have c1' : decide (left - (l.length : Int) < 0) = true := by simp; omega
    go_enter Tryz.func22, Tryz.ntmps22
    go_wp2
    go_ret
    exact ⟨Or.inr ⟨by omega, rfl⟩, Below.refl _ _⟩
theorem infoRequest : (Tryz.prog.info? 94).map (fun i => (i.zero, i.size, i.bytes)) = some (some (.agg #[.string ⟨#[]⟩, .string ⟨#[]⟩, .string ⟨#[]⟩, .int .i64 0, .int .i64 0, .int .i64 0, .int .i64 0, .int .i64 0]), 8, 88) := by kernel_rfl
set_option maxHeartbeats 2000000 in
set_option maxRecDepth 100000 in
theorem to_RequestS (l : List DRequest) (v : Value) (w : World) (h : Rd w.heap.size w (DRequest.sT l) v) (hn : siz (DRequest.sT l) ≤ 1048576) :
    Calls Tryz.prog 28 #[v] w fun e w' => ∃ a' c' fp, e = .returned (.slice a' l.length c') ∧ Below w.heap.size w w' ∧ Own w' (DRequest.sT l) (.slice a' l.length c') fp ∧ In w.heap.size w'.heap.size fp := by
  rw [DRequest.siz_s] at hn
  obtain ⟨i0, hi0, hz0, hz1, hz2⟩ := info_parts infoRequest
  have hmk := fun W => run_make_rowN (P := Tryz.prog) 54 94 i0 _ Tryz.underlying54 hi0 hz0 .i64 .i64 l.length l.length (Nat.le_refl _) (by rw [hz2]; omega) (by omega) W
  rw [hz1] at hmk
  have hnb : (l.length : Int) ≤ 1048576 := by omega
  obtain ⟨a, c, rfl, hnc, hcm, hcells⟩ := DRequest.rd h
  clear h
  go_enter Tryz.func28, Tryz.ntmps28
  go_wp2
  clear hmk hi0 hz0 hz1 hz2
  go_loopw [4] (fun i wr => ∃ (k : Nat) (f : List Nat), k ≤ l.length ∧ i = .int .i64 k ∧ Below w.heap.size w wr ∧ Fill wr w.heap.size 94 (l.length * 8) ((l.take k).flatMap DRequest.tr) f ∧ In w.heap.size wr.heap.size f) (fun i wr => l.length - (intOf i).toNat)
  case atStart =>
    have hst := Fill.start w (madeCells #[.string ⟨#[]⟩, .string ⟨#[]⟩, .string ⟨#[]⟩, .int .i64 0, .int .i64 0, .int .i64 0, .int .i64 0, .int .i64 0] (l.length * 8)) 94
    rw [size_madeCells] at hst
    exact ⟨0, [], Nat.zero_le _, rfl, (Below.refl _ _).alloc (Nat.le_refl _) _, by simpa using hst, In.nil⟩
  case round =>
    obtain ⟨k, f, hk, rfl, hb, hfill, hin⟩ := hrel
    by_cases hlt : k < l.length
    · obtain ⟨b, off, rfl, hbl, hat⟩ := hcells (by omega)
      obtain ⟨s0, s1, s2, s3, s4, s5, s6, s7⟩ := hat k hlt
      rw [← hb.cell (p := ⟨b, _, none⟩) hbl] at s0 s1 s2 s3 s4 s5 s6 s7
      have hz := hfill.lt
      have hz2 : b < wr.heap.size := by omega
      obtain ⟨o0, p0⟩ := hfill.room (k * 8) (by omega)
      obtain ⟨o1, p1⟩ := hfill.room (k * 8 + 1) (by omega)
      obtain ⟨o2, p2⟩ := hfill.room (k * 8 + 2) (by omega)
      obtain ⟨o3, p3⟩ := hfill.room (k * 8 + 3) (by omega)
      obtain ⟨o4, p4⟩ := hfill.room (k * 8 + 4) (by omega)
      obtain ⟨o5, p5⟩ := hfill.room (k * 8 + 5) (by omega)
      obtain ⟨o6, p6⟩ := hfill.room (k * 8 + 6) (by omega)
      obtain ⟨o7, p7⟩ := hfill.room (k * 8 + 7) (by omega)
      have hfz := hfill.open_
      have hsl := sizL_get_le DRequest.tr l k hlt
      have HB := Lib.hid hb
      clear hcells hat hb 
      go_wp2_with (go_at_call 75; refine (to_Request l[k] _).mono ?_; rintro e w1 ⟨rfl, hb1⟩; obtain ⟨q1, q2⟩ := bcell hb1)
      go_roundw
      case rel =>
        have hw1 := hfill.below hin hb1
        have hst := hw1.step (us := l[k].tr) (vs := [.string l[k].id, .string l[k].applicant, .string l[k].partner, .int .i64 l[k].low, .int .i64 l[k].high, .int .i64 l[k].filed, .int .i64 l[k].deadline, .int .i64 l[k].state]) (g := []) (RepV.lits [.string l[k].id, .string l[k].applicant, .string l[k].partner, .int .i64 l[k].low, .int .i64 l[k].high, .int .i64 l[k].filed, .int .i64 l[k].deadline, .int .i64 l[k].state]) (by rw [flat_length _ 8 DRequest.tr_len]; simp; omega) List.nodup_nil (by simp) (by simp) (fun b h => by simp at h)
        rw [flat_length _ 8 DRequest.tr_len, List.length_take, Nat.min_eq_left hk, List.append_nil, ← flat_take_succ DRequest.tr l k hlt] at hst
        exact ⟨k + 1, f, by omega, by go_num, below_setRow (HB.out.trans (hb1.mono (by omega))) (Nat.le_refl _) [.string l[k].id, .string l[k].applicant, .string l[k].partner, .int .i64 l[k].low, .int .i64 l[k].high, .int .i64 l[k].filed, .int .i64 l[k].deadline, .int .i64 l[k].state] (k * 8), hst, fun x hx => ⟨(hin x hx).1, by have := (hin x hx).2; have := hb1.size; simp only [size_setCell]; omega⟩⟩
      case measure => simp [intOf]; omega
    · obtain rfl : k = l.length := by omega
      clear hcells
      go_wp2
      go_ret
      rw [List.take_length] at hfill
      obtain ⟨fp, h1, h2⟩ := hfill.own (flat_length _ 8 DRequest.tr_len l) (by unfold maxLen; omega)
      exact ⟨_, _, fp, rfl, hb, h1, fun x hx => by rcases h2 x hx with rfl | h; exact ⟨Nat.le_refl _, hfill.lt⟩; exact hin x h⟩
set_option maxHeartbeats 2000000 in
set_option maxRecDepth 100000 in
theorem eq_RequestS (l : List DRequest) (v v' : Value) (B : Nat) (w : World) (h : Rd B w (DRequest.sT l) v) (h' : Rd B w (DRequest.sT l) v') (hB : B ≤ w.heap.size) (hn : siz (DRequest.sT l) ≤ 1099511627776) :
    Calls Tryz.prog 37 #[v, v'] w fun e w' => e = .returned (.bool true) ∧ Below w.heap.size w w' := by
  rw [DRequest.siz_s] at hn
  have hnb : (l.length : Int) ≤ 1099511627776 := by omega
  obtain ⟨a, c, rfl, hnc, hcm, hcells⟩ := DRequest.rd h
  obtain ⟨a', c', rfl, hnc', hcm', hcells'⟩ := DRequest.rd h'
  clear h h'
  have hne : ((l.length : Int) != l.length) = false := by simp
  go_enter Tryz.func37, Tryz.ntmps37
  go_wp2
  clear hne
  go_loopw [5] (fun i wr => ∃ (k : Nat), k ≤ l.length ∧ i = .int .i64 k ∧ Below w.heap.size w wr) (fun i wr => l.length - (intOf i).toNat)
  case atStart => exact ⟨0, Nat.zero_le _, rfl, Below.refl _ _⟩
  case round =>
    obtain ⟨k, hk, rfl, hb⟩ := hrel
    by_cases hlt : k < l.length
    · obtain ⟨b, off, rfl, hbl, hat⟩ := hcells (by omega)
      obtain ⟨b', off', rfl, hbl', hat'⟩ := hcells' (by omega)
      obtain ⟨s0, s1, s2, s3, s4, s5, s6, s7⟩ := hat k hlt
      obtain ⟨sb0, sb1, sb2, sb3, sb4, sb5, sb6, sb7⟩ := hat' k hlt
      rw [← hb.cell (p := ⟨b, _, none⟩) (show b < w.heap.size by omega)] at s0 s1 s2 s3 s4 s5 s6 s7
      rw [← hb.cell (p := ⟨b', _, none⟩) (show b' < w.heap.size by omega)] at sb0 sb1 sb2 sb3 sb4 sb5 sb6 sb7
      have hB' : B ≤ wr.heap.size := by have := hb.size; omega
      have hsl := sizL_get_le DRequest.tr l k hlt
      have i1 : (0 : Int) ≤ (k : Int) := by omega
      have i2 : (k : Int) < (l.length : Int) := by omega
      have HB := Lib.hid hb
      clear hcells hat hcells' hat' hb 
      go_wp2
      go_still_tail 8, (by kernel_rfl)
      change wpList _ _ _ _ _ wr.drew
      go_wp2_with (go_at_call 82; refine (eq_Request l[k]   _  ).mono ?_; rintro e w1 ⟨rfl, hb1⟩)
      go_roundw
      case rel => exact ⟨k + 1, by omega, by go_num, HB.out.drew.trans (hb1.mono HB.out.size)⟩
      case measure => simp [intOf]; omega
    · obtain rfl : k = l.length := by omega
      clear hcells hcells'
      go_wp2
      go_ret
      exact ⟨rfl, hb⟩
theorem DRequest.mk_tr (x : DRequest) (K : Nat) : mkL x.tr K = [.lit (.string (mtext (K))), .lit (.string (mtext (K + 1))), .lit (.string (mtext (K + 1 + 1))), .lit (.int .i64 ((K : Int) + 1 + 1 + 1)), .lit (.int .i64 ((K : Int) + 1 + 1 + 1 + 1)), .lit (.int .i64 ((K : Int) + 1 + 1 + 1 + 1 + 1)), .lit (.int .i64 ((K : Int) + 1 + 1 + 1 + 1 + 1 + 1)), .lit (.int .i64 ((K : Int) + 1 + 1 + 1 + 1 + 1 + 1 + 1))] := rfl
theorem DRequest.cntL_tr (x : DRequest) : cntL x.tr = 1 + 1 + 1 + 1 + 1 + 1 + 1 + 1 := by rfl
end Go.Proofs.YtjfmkmcefnidcaaGreat
