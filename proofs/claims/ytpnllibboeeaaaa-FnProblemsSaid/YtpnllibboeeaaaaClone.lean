/- Contracts: copies of lists of integers, for the program and for the reference. Conditions: bounded lengths. -/
import Derived.Test.YtpnllibboeeaaaaInts2
import Derived.Test.YtpnllibboeeaaaaApp
import Derived.WalkSpells
import Derived.Lib.LazyBuf
namespace Go.Proofs.Ytpnllibboeeaaaa
open Go.RowKit
set_option linter.unusedVariables false

theorem oneCell_ints (l : List Int) : ∀ u ∈ l.map (Value.int .i64), u.oneCell' = true := by
  intro u hu
  obtain ⟨n, _, rfl⟩ := List.mem_map.1 hu
  rfl
theorem grow_ints {w : World} {base E : Nat} {v : Value} {l : List Int} (h : w.ownsRow base E 1 v l.length (l.map (Value.int .i64))) : Grow w base E 1 v l.length (l.map intT) [] := by
  refine ⟨⟨_, h, ?_⟩, List.nodup_nil, fun b h => by simp at h, fun g _ => by simp⟩
  have := RepV.lits (w := w) (l.map (Value.int .i64))
  rw [List.map_map] at this
  exact this
theorem own_empty (w : World) (E : Nat) : (w.alloc (.cells #[] E)).ownsRow w.heap.size E 1 (.slice (some ⟨w.heap.size, 0, none⟩) 0 0) 0 [] :=
  ⟨rfl, Or.inr ⟨w.heap.size, 0, #[], rfl, Nat.le_refl _, by show (w.heap.push _)[w.heap.size]? = _; simp, Nat.le_refl _, by unfold maxLen; omega, rfl, rfl⟩⟩
theorem grow_empty (w : World) (E : Nat) : Grow (w.alloc (.cells #[] E)) w.heap.size E 1 (.slice (some ⟨w.heap.size, 0, none⟩) 0 0) 0 [] [] :=
  ⟨⟨[], own_empty w E, rfl⟩, List.nodup_nil, fun b h => by simp at h, fun g _ => by simp⟩
set_option maxHeartbeats 400000 in
theorem cloneI_any (l : List Int) (v : Value) (w : World) (h : Rd w.heap.size w (intsT l) v) (hn : l.length ≤ 1048576) :
    Calls Try.prog 21 #[v] w fun e w' => ∃ a' c' fp, e = .returned (.slice a' l.length c') ∧ Below w.heap.size w w' ∧ Own w' (intsT l) (.slice a' l.length c') fp ∧ In w.heap.size w'.heap.size fp := by
  obtain ⟨i0, hi0, hz0, hz1, hz2⟩ := info_parts infoI
  obtain ⟨a, c, rfl, hnc, hcm, hcl⟩ := h.ints
  have hrd : Reads w w.heap.size 1 a l.length (l.map (Value.int .i64)) := Rd.reads1 (g := Value.int .i64) (by rw [intsT] at h; exact h)
  have HR := Lib.hid hrd
  have H1 := Lib.hid (oneCell_ints l)
  clear hrd h
  cases a with
  | none =>
    have hl : l = [] := by
      rcases Nat.eq_zero_or_pos l.length with h0 | h0
      · exact List.eq_nil_of_length_eq_zero h0
      · obtain ⟨b, off, e, _⟩ := hcl h0
        cases e
    subst hl
    clear hcl
    have heq := fun (W : World) => Go.run_eql_slice_nil (P := Try.prog) W 28 2 none 0 c Try.underlying28
    go_enter Try.func21, Try.ntmps21
    go_wp2
    go_ret
    exact ⟨none, 0, [], rfl, Below.refl _ _, ⟨Rep_sl.2 ⟨none, 0, 0, rfl, rfl, Nat.le_refl _, by unfold maxLen; omega, Or.inl ⟨rfl, rfl⟩⟩, List.nodup_nil, fun b h => by simp at h⟩, In.nil⟩
  | some ad =>
    clear hcl
    have heq := fun (W : World) => Go.run_eql_slice_nil (P := Try.prog) W 28 2 (some ad) l.length c Try.underlying28
    go_enter Try.func21, Try.ntmps21
    go_wp2_with (at_builtin; refine wpList_append_any _ rfl (.tmp 5) (.tmp 6) _ rfl w.heap.size 2 i0 _ 1 8 Try.underlying28 hi0 hz0 hz1 hz2 rfl (by omega) (.slice (some ⟨w.heap.size, 0, none⟩) 0 0) 0 [] rfl (own_empty w _) w.heap.size (some ad) l.length c (l.map (Value.int .i64)) rfl (HR.out.alloc (Nat.le_refl _) _) H1.out (by simp only [maxLen]; omega) (by omega) (by simp) ?_; intro v1 w1 hown1 hg1 hat1)
    have hb1 : Below w.heap.size w w1 := ((Below.refl _ _).alloc (Nat.le_refl _) _).grown hg1 (by simp) (fun k hk => by simp [Value.ownBlock] at hk; omega)
    have hgr : Grow w1 w.heap.size 2 1 v1 l.length (l.map intT) [] := grow_ints (by simpa using hown1)
    obtain ⟨a', c', fp, rfl, ho, hi⟩ := hgr.toOwn (lo := w.heap.size) (by omega) In.nil (Nat.le_refl _)
    clear hown1 hg1 hat1 hgr
    go_wp2
    go_ret
    exact ⟨a', c', fp, rfl, hb1, ho, hi⟩
set_option maxHeartbeats 1000000 in
theorem cloneLists_any (l : List (List Int)) (v : Value) (w : World) (h : Rd w.heap.size w (intssT l) v) (hn : siz (intssT l) ≤ 1048576) :
    Calls Try.prog 40 #[v] w fun e w' => ∃ a' c' fp, e = .returned (.slice a' l.length c') ∧ Below w.heap.size w w' ∧ Own w' (intssT l) (.slice a' l.length c') fp ∧ In w.heap.size w'.heap.size fp := by
  rw [siz_intss] at hn
  obtain ⟨i0, hi0, hz0, hz1, hz2⟩ := info_parts infoII
  have hnb : (l.length : Int) ≤ 1048576 := by omega
  obtain ⟨a, c, rfl, hnc, hcm, hcells⟩ := h.intss
  clear h
  go_enter Try.func40, Try.ntmps40
  go_wp2
  go_loopw [3, 8] (fun out i wr => ∃ (k : Nat) (f : List Nat), k ≤ l.length ∧ i = .int .i64 k ∧ Below w.heap.size w wr ∧ Grow wr w.heap.size 28 1 out k ((l.take k).map intsT) f ∧ In w.heap.size wr.heap.size f) (fun _ i wr => l.length - (intOf i).toNat)
  case atStart => exact ⟨0, [], Nat.zero_le _, rfl, Below.refl _ _, by simpa using Grow.nil, In.nil⟩
  case round =>
    obtain ⟨k, f, hk, rfl, hb, hgr, hin⟩ := hrel
    by_cases hlt : k < l.length
    · obtain ⟨b, off, rfl, hbl, hat⟩ := hcells (by omega)
      obtain ⟨u, s0, hu⟩ := hat k hlt
      have hu' : Rd wr.heap.size wr (intsT l[k]) u := (hu.below hb).mono hb.size
      have hsl := sumLen_get_le l k hlt
      rw [← hb.cell (p := ⟨b, _, none⟩) hbl] at s0
      have HB := Lib.hid hb
      have HG := Lib.hid hgr
      have z1 := hb.size
      clear hcells hat hb hu hgr
      go_wp2_with fail
      refine (cloneI_any l[k] _ _ hu' (by omega)).mono ?_
      rintro e w1 ⟨a1, c1, fp1, rfl, hb1, hown1, hin1⟩
      have z2 := hb1.size
      have HB1 := Lib.hid (HB.out.trans (hb1.mono z1))
      have G1 := Lib.hid (HG.out.below hin hb1)
      have HO := Lib.hid hown1
      clear hb1 hown1 hu'
      obtain ⟨xs, hxo, hxr⟩ := G1.out.own
      have HX := Lib.hid hxo
      clear hxo hxr
      have hb2 : Below w1.heap.size w1 (w1.alloc (.cells #[.slice a1 l[k].length c1] 28)) := (Below.refl _ _).alloc (Nat.le_refl _) _
      have HX2 := Lib.hid (ownsRow_frame HX.out (w' := w1.alloc (.cells #[.slice a1 l[k].length c1] 28)) (fun g hg => hb2.block g (G1.out.block hg).2))
      have G2 := Lib.hid (G1.out.below (hin.mono (Nat.le_refl _) z2) hb2)
      have HO2 := Lib.hid (HO.out.below hin1 (Nat.le_refl _) hb2)
      have HRD := Lib.hid (show Reads (w1.alloc (.cells #[.slice a1 l[k].length c1] 28)) (w1.heap.size + 1) 1 (some ⟨w1.heap.size, 0, none⟩) 1 [.slice a1 l[k].length c1] from ⟨rfl, fun _ => ⟨⟨w1.heap.size, 0, none⟩, rfl, by show w1.heap.size < w1.heap.size + 1; omega, fun j u hu => by
        have hj : j = 0 := by have := (List.getElem?_eq_some_iff.1 hu).1; simp at this; omega
        subst hj
        simp at hu
        subst hu
        simp [Addr.add, go_sem]⟩⟩)
      clear hb2
      go_wp2_with (at_builtin; refine wpList_append_any _ rfl (.tmp 12) (.tmp 15) _ rfl w.heap.size 28 i0 _ 1 24 Try.underlying24 hi0 hz0 hz1 hz2 rfl (by omega) _ k xs rfl HX2.out (w1.heap.size + 1) (some ⟨w1.heap.size, 0, none⟩) 1 1 [.slice a1 l[k].length c1] rfl HRD.out (fun u hu => by simp at hu; subst hu; rfl) (by simp only [maxLen]; omega) (by omega) (by simp; omega) ?_; intro v2 w2 hown2 hg2 hat2)
      have HST := Lib.hid (G2.out.step (us := [intsT l[k]]) (vs := [.slice a1 l[k].length c1]) (g := fp1) HX2.out ⟨fp1, [], HO2.out.rep, rfl, by simp⟩ (hin.mono (Nat.le_refl _) (by simp; omega)) (hin1.mono (by omega) (by simp)) HO2.out.nd (fun x hx e => by have := (hin1 x hx).1; have := (hin x e).2; omega) HO2.out.free (fun b' hb' e => by have := (HG.out.block hb').2; have := (hin1 b' e).1; omega) hown2 hg2 hat2)
      have HB2 := Lib.hid ((HB1.out.alloc (by omega) _).grown hg2 (by simp; omega) (fun g hg => (G1.out.block hg).1))
      have z3 := hg2.size
      clear hown2 hg2 hat2 HX2 HX G2 HO2 HRD
      go_wp2
      go_roundw
      case rel =>
        refine ⟨k + 1, f ++ fp1, by omega, by go_num, HB2.out, ?_, ?_⟩
        · rw [List.take_succ_eq_append_getElem hlt, List.map_append]
          exact HST.out
        · simp at z3
          exact (hin.mono (Nat.le_refl _) (by omega)).append (hin1.mono (by omega) (by omega))
      case measure => simp [intOf]; omega
    · obtain rfl : k = l.length := by omega
      rw [List.take_length] at hgr
      obtain ⟨a', c', fp, rfl, ho, hi⟩ := hgr.toOwn (by omega) hin (Nat.le_refl _)
      clear hcells hgr
      go_wp2
      go_ret
      exact ⟨a', c', fp, rfl, hb, ho, hi⟩
end Go.Proofs.Ytpnllibboeeaaaa
