/- Contracts: texts divided, lists of numbers written and read, for the program and for the reference. Conditions: bounded sizes; the library's own variables hold what they hold at the start. -/
import Derived.Test.YtjkpadfolkniaaaGreatDoorRd2
import Derived.Lib.CutLaws
import Derived.Lib.JoinLaws
namespace Go.Proofs.YtjkpadfolkniaaaGreatDoor
open Go.RowKit
set_option linter.unusedVariables false
set_option linter.unusedSimpArgs false

theorem own_emptyS (w : World) (E : Nat) (cells : Array Value) (c : Nat) (hc : cells.size = c) (hm : c ≤ maxLen) : (w.alloc (.cells cells E)).ownsRow w.heap.size E 1 (.slice (some ⟨w.heap.size, 0, none⟩) 0 c) 0 [] :=
  ⟨rfl, Or.inr ⟨w.heap.size, c, cells, rfl, Nat.le_refl _, by show (w.heap.push _)[w.heap.size]? = _; simp, Nat.zero_le _, hm, by omega, by simp⟩⟩
theorem grow_room (w : World) (E : Nat) (cells : Array Value) (c : Nat) (hc : cells.size = c) (hm : c ≤ maxLen) : Grow (w.alloc (.cells cells E)) w.heap.size E 1 (.slice (some ⟨w.heap.size, 0, none⟩) 0 c) 0 [] [] :=
  ⟨⟨[], own_emptyS w E cells c hc hm, rfl⟩, List.nodup_nil, fun b h => by simp at h, fun g _ => by simp⟩
theorem infoStr : (Tryz.prog.info? 9).map (fun i => (i.zero, i.size, i.bytes)) = some (some (.string ⟨#[]⟩), 1, 16) := by kernel_rfl
theorem extract_seg (s : ByteArray) (f k : Nat) (hk : k ≤ s.size) : s.extract f k = ofL (seg (bl s) f k) := by
  rw [← ofL_bl (s.extract f k)]
  congr 1
  unfold seg bl
  rw [ByteArray.data_extract, Array.toList_extract]
  unfold List.extract
  rw [List.drop_take]
theorem rd_fresh (w : World) (E : Nat) (cells : Array Value) (l : List ByteArray) (c : Nat) (hc : l.length ≤ c) (hm : c ≤ maxLen) (h : ∀ (i : Nat) (hi : i < l.length), cells[i]? = some (.string l[i])) :
    Rd (w.heap.size + 1) (w.alloc (.cells cells E)) (strsT l) (.slice (some ⟨w.heap.size, 0, none⟩) l.length c) := by
  by_cases h0 : l = []
  · subst h0
    exact ⟨[], Rep_sl.2 ⟨_, 0, c, rfl, by simp, Nat.zero_le _, hm, Or.inl ⟨rfl, rfl⟩⟩, fun b hb => by simp at hb⟩
  · refine ⟨[w.heap.size], Rep_sl.2 ⟨_, l.length, c, rfl, by simp, hc, hm, Or.inr ⟨w.heap.size, 0, [], by simpa using h0, rfl, rfl, ?_⟩⟩, fun b hb => by simp at hb; omega⟩
    have e : l.map strT = (l.map Value.string).map Tr.lit := by rw [List.map_map]; rfl
    rw [e]
    refine Reps.lits _ _ _ (fun i hi => ?_)
    have hi' : i < l.length := by simpa using hi
    have := h i hi'
    have hh : (w.alloc (.cells cells E)).heap[w.heap.size]? = some (.cells cells E (0, 0)) := by show (w.heap.push _)[w.heap.size]? = _; simp
    simp only [List.getElem_map, Nat.zero_add]
    rw [cell_of_row' hh]
    exact this
theorem len_words (c : UInt8) (s : ByteArray) : (wordsB c s).length ≤ s.size + 1 := by
  rw [wordsB_len]
  have := List.count_le_length (a := c) (l := bl s)
  rw [bl_len] at this; omega
set_option maxHeartbeats 8000000 in
set_option maxRecDepth 100000 in
theorem l01Split_any (s : ByteArray) (c : UInt8) (ci : Int) (hc : ci = (c.toNat : Int)) (hs : s.size ≤ 1048576) (w : World) :
    Calls Tryz.prog 30 #[.string s, .int .u8 ci] w fun e w' => ∃ a cc, e = .returned (.slice a (wordsB c s).length cc) ∧ Below w.heap.size w w' ∧ Rd w'.heap.size w' (strsT (wordsB c s)) (.slice a (wordsB c s).length cc) := by
  have hB : Hid (Below w.heap.size w (w.alloc (.cells #[] 9))) := (Below.refl _ _).alloc (Nat.le_refl _) _
  obtain ⟨i0, hi0, hz0, hz1, hz2⟩ := info_parts infoStr
  have hci : Hid (ci = (c.toNat : Int)) := hc
  clear hc
  go_enter Tryz.func30, Tryz.ntmps30
  go_wp2
  go_loopw [5, 6, 7] (fun v fr i wr => ∃ (k f : Nat) (out : List (List UInt8)), k ≤ s.size ∧ f ≤ k ∧ out.length ≤ k ∧ i = .int .i64 k ∧ fr = .int .i64 f ∧ splitC c ((bl s).take k) = out ++ [seg (bl s) f k] ∧ Below w.heap.size w wr ∧ Grow wr w.heap.size 9 1 v out.length (out.map (fun p => strT (ofL p))) []) (fun _ _ i wr => s.size - (intOf i).toNat)
  case atStart => exact ⟨0, 0, [], Nat.zero_le _, Nat.le_refl _, Nat.zero_le _, rfl, rfl, rfl, hB.out, by simpa using grow_room w 9 #[] 0 rfl (by unfold maxLen; omega)⟩
  case round =>
    obtain ⟨k, f, out, hk, hf, ho, rfl, rfl, hsp, hb, hgr⟩ := hrel
    have HS := Lib.hid hsp
    have HB := Lib.hid hb
    have HG := Lib.hid hgr
    have zr := hb.size
    clear hb hgr hsp
    by_cases hlt : k < s.size
    · have HSN := Lib.hid (seg_succS s f k hlt hf)
      have HTK : Hid ((bl s).take (k + 1) = (bl s).take k ++ [s[k]]) := by
        have hkl : k < (bl s).length := by rw [bl_len]; exact hlt
        show _ = _
        rw [List.take_succ_eq_append_getElem hkl, bl_get s k hkl]
      by_cases hm : s[k] = c
      · have hmi : ((s[k].toNat : Int) == ci) = true := by rw [hci.out, hm]; exact beq_iff_eq.2 rfl
        have HE := Lib.hid (extract_seg s f k hk)
        have HM := Lib.hid hm
        clear hm
        go_wp2_with (at_builtin; refine wpList_append1 rfl (.tmp 20) (.tmp 25) _ rfl (w.heap.size) 9 i0 _ 1 16 Tryz.underlying36 hi0 hz0 hz1 hz2 rfl (by omega) _ _ _ [] rfl HG.out [.string (s.extract f k)] [strT (s.extract f k)] [] rfl 1 rfl (fun u hu => by simp at hu; subst hu; rfl) (RepV.lits [.string (s.extract f k)]) List.nodup_nil (fun b h => by simp at h) 0 In.nil In.nil (by simp) (by simp) (by unfold maxLen; omega) (by omega) (by omega) ?_; intro v2 w2 hgn)
        have HGN := Lib.hid hgn
        clear hgn
        go_wp2
        go_roundw
        case rel =>
          refine ⟨k + 1, k + 1, out ++ [seg (bl s) f k], by omega, Nat.le_refl _, by simp; omega, by go_num, by go_num, ?_, HB.out.trans HGN.out.below, ?_⟩
          · rw [HTK.out, splitC_snoc c _ _ _ _ HS.out, if_pos HM.out, seg_self]
          · rw [List.length_append, List.map_append]
            have := HGN.out.grow
            rw [HE.out] at this
            exact this
        case measure => simp [intOf]; omega
      · have hmi : ((s[k].toNat : Int) == ci) = false := by
          rw [hci.out, beq_eq_false_iff_ne]
          intro e
          exact hm (UInt8.toNat_inj.1 (by omega))
        have HM := Lib.hid hm
        clear hm
        go_wp2
        go_roundw
        case rel =>
          refine ⟨k + 1, f, out, by omega, by omega, by omega, by go_num, rfl, ?_, HB.out, HG.out⟩
          rw [HTK.out, splitC_snoc c _ _ _ _ HS.out, if_neg HM.out, HSN.out]
        case measure => simp [intOf]; omega
    · obtain rfl : k = s.size := by omega
      have HE := Lib.hid (extract_seg s f s.size (Nat.le_refl _))
      have HW : Hid (wordsB c s = (out ++ [seg (bl s) f s.size]).map ofL) := by
        have := HS.out
        rw [← bl_len, List.take_length] at this
        rw [bl_len] at this
        show _ = _
        unfold wordsB
        rw [this]
      go_wp2_with (at_builtin; refine wpList_append1 rfl (.tmp 29) (.tmp 33) _ rfl (w.heap.size) 9 i0 _ 1 16 Tryz.underlying36 hi0 hz0 hz1 hz2 rfl (by omega) _ _ _ [] rfl HG.out [.string (s.extract f s.size)] [strT (s.extract f s.size)] [] rfl 1 rfl (fun u hu => by simp at hu; subst hu; rfl) (RepV.lits [.string (s.extract f s.size)]) List.nodup_nil (fun b h => by simp at h) 0 In.nil In.nil (by simp) (by simp) (by unfold maxLen; omega) (by omega) (by omega) ?_; intro v2 w2 hgn)
      have HGN := Lib.hid hgn
      clear hgn
      obtain ⟨av, cv, fv, ev, ov, iv⟩ := HGN.out.grow.toOwn (lo := w.heap.size) (by omega) In.nil (by omega)
      have BW := Lib.hid (HB.out.trans HGN.out.below)
      subst ev
      clear HGN
      go_wp2
      go_ret
      rw [HW.out]
      have hr := ov.rd iv
      rw [HE.out] at hr
      refine ⟨av, cv, by simp, BW.out, ?_⟩
      have e : strsT (List.map ofL (out ++ [seg (bl s) f s.size])) = .sl 1 (out.map (fun p => strT (ofL p)) ++ [strT (ofL (seg (bl s) f s.size))]) := by
        unfold strsT; simp [List.map_map]
      rw [e]
      simpa using hr
theorem iSplit_any (s : ByteArray) (c : UInt8) (hs : s.size ≤ 1048576) (w : World) (L : LibW w) :
    Calls Tryz.prog 36 #[.string s, .string ⟨#[c]⟩] w fun e w' => ∃ a cc, e = .returned (.slice a (wordsB c s).length cc) ∧ Below w.heap.size w w' ∧ Rd w'.heap.size w' (strsT (wordsB c s)) (.slice a (wordsB c s).length cc) := by
  obtain ⟨m, hm⟩ := L.m
  refine (Tryz.strings_Split s ⟨#[c]⟩ m w (by omega) hm (Nat.le_refl 1)).mono fun e w' ⟨he, hw⟩ => ?_
  have hl : Go.Lib.countB s ⟨#[c]⟩ + 1 = (wordsB c s).length := by rw [countB_one, wordsB_len]
  have hlw := len_words c s
  subst hw
  rw [hl] at he
  refine ⟨_, _, he, (Below.refl _ _).alloc (Nat.le_refl _) _, ?_⟩
  have := rd_fresh w 9 ((Go.Lib.splitB ⟨#[c]⟩ 0 (Go.Lib.countB s ⟨#[c]⟩) s).map Value.string).toArray (wordsB c s) (wordsB c s).length (Nat.le_refl _) (by unfold maxLen; omega) (fun i hi => by
    rw [splitB_all_words]; simp [hi])
  exact this.mono (by simp)
def wordsN (c : UInt8) (s : ByteArray) : List ByteArray := (splitN c 64 (bl s)).map ofL
theorem iSplitN_any (s : ByteArray) (c : UInt8) (hs : s.size ≤ 1048576) (w : World) (L : LibW w) :
    Calls Tryz.prog 43 #[.string s, .string ⟨#[c]⟩, .int .i64 65] w fun e w' => ∃ a cc, e = .returned (.slice a (wordsN c s).length cc) ∧ Below w.heap.size w w' ∧ Rd w'.heap.size w' (strsT (wordsN c s)) (.slice a (wordsN c s).length cc) ∧ (wordsN c s).length ≤ 65 := by
  obtain ⟨m, hm⟩ := L.m
  refine (Tryz.strings_SplitN s ⟨#[c]⟩ 65 m w (by omega) hm (Nat.le_refl 1) (by omega) (by omega)).mono fun e w' ⟨he, hw⟩ => ?_
  have hk : splitN c (min 65 (s.size + 1) - 1) (bl s) = splitN c 64 (bl s) := by
    have := splitN_min c 64 (bl s)
    rw [bl_len] at this
    exact this
  have hwd : Go.Lib.splitB ⟨#[c]⟩ 0 (min 65 (s.size + 1) - 1) s = wordsN c s := by rw [splitB_words, hk]; rfl
  have hle := Go.Lib.splitB_length_le ⟨#[c]⟩ 0 (min 65 (s.size + 1) - 1) s
  rw [hwd] at he hle
  subst hw
  rw [hwd]
  refine ⟨_, _, he, (Below.refl _ _).alloc (Nat.le_refl _) _, ?_, by omega⟩
  have := rd_fresh w 9 (Go.Lib.cellsOf (wordsN c s) (min 65 (s.size + 1))) (wordsN c s) (min 65 (s.size + 1)) (by omega) (by unfold maxLen; omega) (fun i hi => by
    unfold Go.Lib.cellsOf
    rw [List.getElem?_toArray, List.getElem?_append_left (by simpa using hi)]; simp [hi])
  exact this.mono (by simp)
def ReadP (o : Option (List Int)) (w : World) (e : Ending) (w' : World) : Prop := match o with
  | some vs => ∃ a c, e = .returned (.tuple #[.slice a vs.length c, .bool true]) ∧ Below w.heap.size w w' ∧ Rd w'.heap.size w' (intsT vs) (.slice a vs.length c)
  | none => e = .returned (.tuple #[.slice none 0 0, .bool false]) ∧ Below w.heap.size w w'
theorem rd_nilI (B : Nat) (w : World) (a : Option Addr) (c : Nat) (h : c ≤ maxLen) : Rd B w (intsT []) (.slice a 0 c) := ⟨[], Rep_sl.2 ⟨a, 0, c, rfl, rfl, Nat.zero_le _, h, Or.inl ⟨rfl, rfl⟩⟩, fun b hb => by simp at hb⟩
theorem eqS_dash (s : ByteArray) : (s.toList == [45]) = decide (bl s = [45]) := by
  rw [Bool.eq_iff_iff, beq_iff_eq, decide_eq_true_eq, ByteArray.toList_eq]
  exact Iff.rfl
theorem nums_take {ps : List (List UInt8)} (k : Nat) (vs : List Int) (h : k < ps.length) (hn : nums (ps.take k) = some vs) : nums (ps.take (k + 1)) = match num ps[k] with | some v => some (vs ++ [v]) | none => none := by
  rw [List.take_succ_eq_append_getElem h]; exact nums_snoc _ _ _ hn
theorem I64_num {l : List UInt8} {v : Int} (h : num l = some v) : I64 v := by
  have := (num_some h).2
  constructor <;> omega
theorem splitN_size (c : UInt8) : ∀ (l : List UInt8) (k : Nat) (p : List UInt8), p ∈ splitN c k l → p.length ≤ l.length := by
  intro l
  induction l with
  | nil => intro k p hp; cases k <;> · simp [splitN] at hp; subst hp; simp
  | cons b l ih =>
    intro k p hp
    cases k with
    | zero => simp [splitN] at hp; subst hp; exact Nat.le_refl _
    | succ k =>
      rw [splitN] at hp
      by_cases h : b = c
      · rw [if_pos h] at hp
        rcases List.mem_cons.1 hp with rfl | hp
        · simp
        · have := ih k p hp; simp; omega
      · rw [if_neg h] at hp
        cases hs : splitN c (k + 1) l with
        | nil => exact absurd hs (splitN_ne _ _ _)
        | cons q qs =>
          rw [hs] at hp
          rcases List.mem_cons.1 hp with rfl | hp
          · have := ih (k + 1) q (by rw [hs]; simp); simp; omega
          · have := ih (k + 1) p (by rw [hs]; simp [hp]); simp; omega
theorem words_size (c : UInt8) (s : ByteArray) (p : ByteArray) (h : p ∈ wordsB c s) : p.size ≤ s.size := by
  unfold wordsB at h
  obtain ⟨q, hq, rfl⟩ := List.mem_map.1 h
  rw [← splitN_full c (bl s) _ (Nat.le_refl _)] at hq
  have := splitN_size c _ _ _ hq
  rw [ofL_size, ← bl_len]; exact this
theorem words_sizeN (c : UInt8) (s : ByteArray) (p : ByteArray) (h : p ∈ wordsN c s) : p.size ≤ s.size := by
  unfold wordsN at h
  obtain ⟨q, hq, rfl⟩ := List.mem_map.1 h
  have := splitN_size c _ _ _ hq
  rw [ofL_size, ← bl_len]; exact this
theorem nums_I64 {ps : List (List UInt8)} {l : List Int} (h : nums ps = some l) : ∀ n ∈ l, I64 n := by
  induction ps generalizing l with
  | nil => obtain rfl : l = [] := (Option.some.inj h).symm; intro n hn; cases hn
  | cons p ps ih =>
    obtain ⟨v, vs, rfl, h1, h2⟩ := nums_cons_some h
    intro n hn
    rcases List.mem_cons.1 hn with rfl | hn
    · exact I64_num h1
    · exact ih h2 n hn
theorem nums_prefix {ps : List (List UInt8)} {l : List Int} (k : Nat) (us : List Int) (h : nums ps = some l) (hk : nums (ps.take k) = some us) : us = l.take k := by
  induction ps generalizing k us l with
  | nil =>
    obtain rfl : l = [] := (Option.some.inj h).symm
    rw [List.take_nil] at hk
    rw [← Option.some.inj hk]; simp
  | cons p ps ih =>
    obtain ⟨v, vs, rfl, h1, h2⟩ := nums_cons_some h
    cases k with
    | zero => rw [← Option.some.inj hk]; rfl
    | succ k =>
      rw [List.take_succ_cons] at hk
      obtain ⟨v', vs', rfl, h1', h2'⟩ := nums_cons_some hk
      rw [ih k vs' h2 h2', Option.some.inj (h1'.symm.trans h1)]; rfl
theorem readS_bad (ps : List (List UInt8)) (k : Nat) (vs : List Int) (n : Int) (h : nums (ps.take (k + 1)) = some (vs ++ [n])) (hb : bnd n = false) :
    (match nums ps with | none => none | some us => if us.all bnd = true then some us else none) = (none : Option (List Int)) := by
  cases hn : nums ps with
  | none => rfl
  | some us =>
    refine if_neg fun hall => ?_
    have hp := nums_prefix (k + 1) _ hn h
    have : n ∈ us := List.mem_of_mem_take (by rw [← hp]; simp : n ∈ us.take (k + 1))
    have := List.all_eq_true.1 hall n this
    rw [hb] at this; cases this
end Go.Proofs.YtjkpadfolkniaaaGreatDoor
