/- Contracts: the lines of a register's text, for the program. Conditions: bounded sizes; the library's own variables hold what they hold at the start. -/
import Derived.Test.YtjkpadfolkniaaaGreatDoorLr0
import Derived.Test.YtjkpadfolkniaaaGreatDoorRd3
import Derived.Test.YtjkpadfolkniaaaGreatDoorOver
namespace Go.Proofs.YtjkpadfolkniaaaGreatDoor
open Go.RowKit
set_option linter.unusedVariables false
set_option linter.unusedSimpArgs false

/-- what the lines' readers hand back -/
def LinesP (o : List (List UInt8) × Int) (w : World) (e : Ending) (w' : World) : Prop :=
  ∃ a c, e = .returned (.tuple #[.slice a o.1.length c, .int .i64 o.2]) ∧ Below w.heap.size w w' ∧ Rd w'.heap.size w' (strsT (o.1.map ofL)) (.slice a o.1.length c)
theorem rd_strsAt (W : World) (b off : Nat) (l : List ByteArray) (c : Nat) (hc : l.length ≤ c) (hm : c ≤ maxLen) (h : ∀ (i : Nat) (hi : i < l.length), W.cell? ⟨b, off + i, none⟩ = some (.string l[i])) (B : Nat) (hB : b < B) :
    Rd B W (strsT l) (.slice (some ⟨b, off, none⟩) l.length c) := by
  by_cases h0 : l = []
  · subst h0
    exact ⟨[], Rep_sl.2 ⟨_, 0, c, rfl, by simp, Nat.zero_le _, hm, Or.inl ⟨rfl, rfl⟩⟩, fun b hb => by simp at hb⟩
  · refine ⟨[b], Rep_sl.2 ⟨_, l.length, c, rfl, by simp, hc, hm, Or.inr ⟨b, off, [], by simpa using h0, rfl, rfl, ?_⟩⟩, fun b hb => by simp at hb; omega⟩
    have e : l.map strT = (l.map Value.string).map Tr.lit := by rw [List.map_map]; rfl
    rw [e]
    refine Reps.lits _ _ _ (fun i hi => ?_)
    have hi' : i < l.length := by simpa using hi
    simp only [List.getElem_map]
    exact h i hi'
theorem suffix_last (l : List UInt8) : Go.Lib.hasSuffix l [10] = decide (l.getLast? = some 10) := by
  unfold Go.Lib.hasSuffix
  rw [Bool.eq_iff_iff, decide_eq_true_eq, List.isSuffixOf_iff_suffix]
  constructor
  · rintro ⟨t, rfl⟩; simp
  · intro h
    obtain ⟨t, e⟩ := List.getLast?_eq_some_iff.1 h
    exact ⟨t, e.symm⟩
theorem trim_last {l : List UInt8} (h : l.getLast? = some 10) : Go.Lib.trimSuffix l [10] = l.dropLast := by
  unfold Go.Lib.trimSuffix
  rw [suffix_last, decide_eq_true h, if_pos rfl, List.dropLast_eq_take]
  rfl
set_option maxHeartbeats 4000000 in
set_option maxRecDepth 100000 in
theorem headClosure_any (n : Int) (h1 : 0 ≤ n) (h2 : n ≤ 48) (wb b1 off nl c1 : Nat) (hnl : 0 < nl) (hnb : nl ≤ 1099511627776) (t : List UInt8) (w : World) (L : LibW w) (c0 : w.cell? ⟨wb, 0, none⟩ = some (.slice (some ⟨b1, off, none⟩) nl c1)) (c4 : w.cell? ⟨b1, off, none⟩ = some (.string (ofL t))) :
    Calls Tryz.prog 38 #[.int .i64 n, .pointer (some ⟨wb, 0, none⟩)] w fun e w' => e = .returned (.bool (decide (headR t = some n))) ∧ Below w.heap.size w w' := by
  have HN : Hid (∀ W : World, LibW W → Calls Tryz.prog 39 #[.int .i64 n] W fun e w' => e = .returned (.string (ofL (headL n))) ∧ Below W.heap.size W w') := fun W hW => registerHead_any n (by constructor <;> omega) W hW
  have HE : Hid (eqS (ofL (headL n)) (ofL t) = decide (headR t = some n)) := by
    show _ = _
    rw [Bool.eq_iff_iff, eqS_iff, decide_eq_true_eq, ← headR_iff t n h1 h2]
    exact ⟨fun h => ofL_inj h, fun h => by rw [h]⟩
  have l0 := cell_lt c0
  have l4 := cell_lt c4
  dsimp only at l0 l4
  have HLO : Hid (∀ X, LibW (over w.heap.size w X)) := fun X => L.mono (over_below w.heap.size w X)
  generalize ofL (headL n) = tn at *
  generalize ofL t = tt at *
  have o0 := overC (w0 := w) l0
  have o4 := overC (w0 := w) l4
  have hi0 : (0 : Int) < (nl : Int) := by omega
  clear h1 h2 L
  go_enter Tryz.func38, Tryz.ntmps38
  go_upto_region 1 with (fail)
  refine wp_region_over w.heap.size w (Below.refl _ _) (by kernel_rfl) (by kernel_rfl) ?_
  repeat (go_big_quiet_step (first | (go_at_call 39; with_reducible exact over_left (Nat.le_refl _) (HN.out _ (HLO.out _)))))
  refine wpQuiet_nil ?_
  rintro _ ⟨X, rfl⟩
  have BE := Lib.hid (over_below w.heap.size w X)
  clear o0 o4
  generalize over w.heap.size w X = w9 at *
  go_wp2
  go_ret
  exact ⟨by rw [← HE.out]; rfl, BE.out⟩
set_option maxHeartbeats 4000000 in
set_option maxRecDepth 100000 in
theorem leastHead_any (wb b1 off nl c1 : Nat) (hnl : 0 < nl) (hnb : nl ≤ 1099511627776) (t : List UInt8) (w : World) (L : LibW w) (c0 : w.cell? ⟨wb, 0, none⟩ = some (.slice (some ⟨b1, off, none⟩) nl c1)) (c4 : w.cell? ⟨b1, off, none⟩ = some (.string (ofL t))) :
    Calls Tryz.prog 37 #[.int .i64 0, .int .i64 48, .func (.func 38) #[] #[.pointer (some ⟨wb, 0, none⟩)]] w fun e w' => e = .returned (.tuple #[.int .i64 ((headR t).getD 0), .bool (headR t).isSome]) ∧ Below w.heap.size w w' := by
  have l0 := cell_lt c0
  have l4 := cell_lt c4
  dsimp only at l0 l4
  have hcf : ∀ (args : Array Value) (W : World), (callFunc 38 args).run Tryz.prog W = .ok (.enter 38 args) W := fun _ _ => by kernel_rfl
  have HC : Hid (∀ (n : Int) (W : World), 0 ≤ n → n ≤ 48 → Below w.heap.size w W → Calls Tryz.prog 38 #[.int .i64 n, .pointer (some ⟨wb, 0, none⟩)] W fun e w' => e = .returned (.bool (decide (headR t = some n))) ∧ Below W.heap.size W w') := fun n W h1 h2 hW =>
    headClosure_any n h1 h2 wb b1 off nl c1 hnl hnb t W (L.mono hW) ((bat hW _ _ l0).trans c0) ((bat hW _ _ l4).trans c4)
  have HR : Hid (∀ n, headR t = some n → 0 ≤ n ∧ n ≤ 48) := fun n h => headR_range h
  generalize headR t = o at *
  clear c0 c4 l0 l4 L hnl hnb
  go_enter Tryz.func37, Tryz.ntmps37
  go_wp2
  go_loopw [8] (fun i wr => ∃ (k : Nat), k ≤ 49 ∧ i = .int .i64 k ∧ (∀ n, o = some n → (k : Int) ≤ n) ∧ Below w.heap.size w wr) (fun i wr => 49 - (intOf i).toNat)
  case atStart => exact ⟨0, by omega, rfl, fun n h => (HR.out n h).1, Below.refl _ _⟩
  case round =>
    obtain ⟨k, hk, rfl, hno, hb⟩ := hrel
    have HN := Lib.hid hno
    have HB := Lib.hid hb
    clear hno hb
    by_cases hlt : k ≤ 48
    · have hki : (k : Int) ≤ 48 := by omega
      have hkj : (0 : Int) ≤ k := by omega
      have HCk := Lib.hid (fun W h => HC.out (k : Int) W hkj hki h)
      go_wp2_with fail
      refine (HCk.out _ HB.out).mono ?_
      rintro e w1 ⟨rfl, hb1⟩
      have HB1 := Lib.hid (HB.out.trans (hb1.mono HB.out.size))
      clear hb1
      by_cases hp : o = some (k : Int)
      · have hd : decide (o = some (k : Int)) = true := decide_eq_true hp
        rw [hd]
        have HP := Lib.hid hp
        clear hp hd
        go_wp2
        go_ret2
        exact ⟨by rw [HP.out]; rfl, HB1.out⟩
      · have hd : decide (o = some (k : Int)) = false := decide_eq_false hp
        rw [hd]
        have HP := Lib.hid hp
        clear hp hd
        go_wp2
        go_roundw
        case rel => exact ⟨k + 1, by omega, by go_num, fun n h => by
          have h1 := HN.out n h
          have : n ≠ (k : Int) := fun e => HP.out (by rw [h, e])
          omega, HB1.out⟩
        case measure => simp [intOf]; omega
    · obtain rfl : k = 49 := by omega
      have hc0 : o = none := by
        cases ho : o with
        | none => rfl
        | some n => have h1 := HN.out n ho; have h2 := HR.out n ho; omega
      subst hc0
      go_wp2
      go_ret2
      exact ⟨rfl, HB.out⟩
set_option maxHeartbeats 8000000 in
set_option maxRecDepth 100000 in
theorem registerLines_any (s : ByteArray) (hs : s.size ≤ 1048576) (w : World) (L : LibW w) : Calls Tryz.prog 17 #[.string s] w (LinesP (linesR (bl s)) w) := by
  have hcs : Hid (∀ W, Calls Tryz.prog 35 #[.string s, .string ⟨#[10]⟩] W fun e w' => e = .returned (.tuple #[.string ⟨(Go.Lib.trimSuffix (bl s) [10]).toArray⟩, .bool (decide ((bl s).getLast? = some 10))]) ∧ W = w') := fun W => (Tryz.strings_CutSuffix s ⟨#[10]⟩ W (by omega)).mono fun e w' ⟨he, hw⟩ => ⟨by rw [he, ← suffix_last]; rfl, hw.symm⟩
  by_cases hsf : (bl s).getLast? = some 10
  case neg =>
    rw [decide_eq_false hsf] at hcs
    have HE : Hid (linesR (bl s) = ([], 11)) := by show _ = _; unfold linesR; rw [if_neg hsf]
    clear hsf L
    rw [HE.out]
    go_enter Tryz.func17, Tryz.ntmps17
    go_wp2_with (go_at_call 35; refine (hcs.out _).mono ?_; rintro e w1 ⟨rfl, rfl⟩)
    go_ret2
    exact ⟨none, 0, rfl, Below.refl _ _, ⟨[], Rep_sl.2 ⟨none, 0, 0, rfl, by simp, Nat.zero_le _, Nat.zero_le _, Or.inl ⟨rfl, rfl⟩⟩, fun b hb => by simp at hb⟩⟩
  rw [decide_eq_true hsf, trim_last hsf] at hcs
  have HE : Hid (linesR (bl s) = linesT (bl s).dropLast) := by show _ = _; unfold linesR; rw [if_pos hsf]
  have hts : (ofL (bl s).dropLast).size ≤ 1048576 := by
    show (bl s).dropLast.length ≤ _
    rw [List.length_dropLast, bl_len]; omega
  rw [HE.out]
  clear hsf HE
  generalize (bl s).dropLast = t at *
  have hcs2 : Hid (∀ W, Calls Tryz.prog 35 #[.string s, .string ⟨#[10]⟩] W fun e w' => e = .returned (.tuple #[.string (ofL t), .bool true]) ∧ W = w') := hcs
  have HSP : Hid (∀ W, LibW W → Calls Tryz.prog 36 #[.string (ofL t), .string ⟨#[10]⟩] W fun e w' => ∃ a cc, e = .returned (.slice a ((splitC 10 t).map ofL).length cc) ∧ Below W.heap.size W w' ∧ Rd w'.heap.size w' (strsT ((splitC 10 t).map ofL)) (.slice a ((splitC 10 t).map ofL).length cc)) := fun W hW => by
    have := iSplit_any (ofL t) 10 hts W hW
    rw [wordsB, bl_ofL] at this
    exact this
  have hlen : (splitC 10 t).length ≤ 1048577 := by
    rw [splitC_len]
    have := List.count_le_length (a := (10 : UInt8)) (l := t)
    have h2 : t.length ≤ 1048576 := hts
    omega
  obtain ⟨l0, ls, hl⟩ : ∃ l0 ls, splitC 10 t = l0 :: ls := by
    cases h : splitC 10 t with
    | nil => exact absurd h (splitC_ne _ _)
    | cons a b => exact ⟨a, b, rfl⟩
  have HLT : Hid (linesT t = match headR l0 with | none => ([], 9) | some m => if (ls.length : Int) < m then ([], 11) else if m < (ls.length : Int) then ([], 9) else (ls, 0)) := by
    show _ = _
    unfold linesT
    rw [hl]
    simp only [List.headD_cons, List.length_cons, List.tail_cons]
    have e : ((ls.length + 1 : Nat) : Int) - 1 = (ls.length : Int) := by omega
    simp only [e]
    cases headR l0 <;> rfl
  rw [hl] at HSP hlen
  simp only [List.map_cons, List.length_cons, List.length_map] at HSP hlen
  clear hl hts hcs hs
  have HL := Lib.hid L
  clear L
  have hnl : (ls.length : Int) ≤ 1048576 := by omega
  go_enter Tryz.func17, Tryz.ntmps17
  go_wp2_with (go_at_call 35; refine (hcs2.out _).mono ?_; rintro e w1 ⟨rfl, rfl⟩)
  refine (HSP.out _ HL.out).mono ?_
  rintro e w2 ⟨a1, c1, rfl, hb2, hr2⟩
  obtain ⟨_, _, e1, hlc, hcm, hcl⟩ := Rd.strs hr2
  injection e1 with e1 e2 e3
  subst e1 e3
  obtain ⟨b1, off, ea, hbb, hat⟩ := hcl (by simp)
  subst ea
  have HB2 := Lib.hid hb2
  have z2 := hb2.size
  have HAT := Lib.hid hat
  simp only [List.length_cons, List.length_map] at hlc
  clear hb2 hr2 hcl hat e2
  go_upto_region 5 with (fail)
  obtain ⟨W3, hW3, b3, z3, k3⟩ := boxes1 w2 #[.slice (some ⟨b1, off, none⟩) (ls.length + 1) c1] 36
  rw [hW3]
  clear hW3
  have HB3 := Lib.hid (HB2.out.trans (b3.mono z2))
  have wx := bkC (v := .slice (some ⟨b1, off, none⟩) (ls.length + 1) c1) k3 0 rfl
  have HW3 : Hid (∀ W, Below W3.heap.size W3 W → W.cell? ⟨w2.heap.size, 0, none⟩ = some (.slice (some ⟨b1, off, none⟩) (ls.length + 1) c1)) := fun W hW => bkC (bkB k3 hW (by omega)) 0 rfl
  have HC3 : Hid (∀ W, Below W3.heap.size W3 W → ∀ (i : Nat) (hi : i < (ofL l0 :: ls.map ofL).length), W.cell? ⟨b1, off + i, none⟩ = some (.string ((ofL l0 :: ls.map ofL)[i]))) := fun W hW i hi => (bat hW b1 _ (by omega)).trans ((bat b3 b1 _ hbb).trans (HAT.out i hi))
  clear b3 k3 HAT
  go_wp2_with fail
  refine (leastHead_any w2.heap.size b1 off (ls.length + 1) c1 (by omega) (by omega) l0 W3 (HL.out.mono HB3.out) wx (by simpa using HC3.out W3 (Below.refl _ _) 0 (by simp))).mono ?_
  rintro e w4 ⟨rfl, hb4⟩
  have wy := HW3.out _ hb4
  have HB4 := Lib.hid (HB3.out.trans (hb4.mono HB3.out.size))
  have HC4 : Hid (∀ (i : Nat) (hi : i < ls.length), w4.cell? ⟨b1, off + 1 + i, none⟩ = some (.string ((ls.map ofL)[i]'(by simpa using hi)))) := fun i hi => by
    have := HC3.out w4 hb4 (i + 1) (by simp; omega)
    rw [show off + 1 + i = off + (i + 1) by omega, this]
    rfl
  have hz4 := hb4.size
  clear hb4 wx HC3 HW3
  cases hh : headR l0 with
  | none =>
    have HE : Hid (linesT t = ([], 9)) := by show _ = _; rw [HLT.out, hh]
    clear hh HLT
    go_wp2
    go_ret2
    rw [HE.out]
    exact ⟨none, 0, rfl, HB4.out, ⟨[], Rep_sl.2 ⟨none, 0, 0, rfl, by simp, Nat.zero_le _, Nat.zero_le _, Or.inl ⟨rfl, rfl⟩⟩, fun b hb => by simp at hb⟩⟩
  | some m =>
    have hm := headR_range hh
    have HE : Hid (linesT t = if (ls.length : Int) < m then ([], 11) else if m < (ls.length : Int) then ([], 9) else (ls, 0)) := by show _ = _; rw [HLT.out, hh]
    clear hh HLT
    have hm0 := hm.1
    have hm1 := hm.2
    clear hm
    by_cases h1 : (ls.length : Int) < m
    · rw [if_pos h1] at HE
      go_wp2
      go_ret2
      rw [HE.out]
      exact ⟨none, 0, rfl, HB4.out, ⟨[], Rep_sl.2 ⟨none, 0, 0, rfl, by simp, Nat.zero_le _, Nat.zero_le _, Or.inl ⟨rfl, rfl⟩⟩, fun b hb => by simp at hb⟩⟩
    · by_cases h2 : m < (ls.length : Int)
      · rw [if_neg h1, if_pos h2] at HE
        go_wp2
        go_ret2
        rw [HE.out]
        exact ⟨none, 0, rfl, HB4.out, ⟨[], Rep_sl.2 ⟨none, 0, 0, rfl, by simp, Nat.zero_le _, Nat.zero_le _, Or.inl ⟨rfl, rfl⟩⟩, fun b hb => by simp at hb⟩⟩
      · rw [if_neg h1, if_neg h2] at HE
        go_wp2
        · go_ret2
          rw [HE.out]
          have hz : ls.length = 0 := by omega
          obtain rfl : ls = [] := List.length_eq_zero_iff.1 hz
          exact ⟨some ⟨b1, off, none⟩, 0, rfl, HB4.out, by simpa using rd_strsAt w4 b1 off [] 0 (by simp) (by omega) (fun i hi => by simp at hi) w4.heap.size (by omega)⟩
        · go_ret2
          rw [HE.out]
          refine ⟨some ⟨b1, off + 1, none⟩, c1 - 1, rfl, HB4.out, ?_⟩
          have := rd_strsAt w4 b1 (off + 1) (ls.map ofL) (c1 - 1) (by simp; omega) (by omega) (fun i hi => HC4.out i (by simpa using hi)) w4.heap.size (by omega)
          simpa using this
end Go.Proofs.YtjkpadfolkniaaaGreatDoor
