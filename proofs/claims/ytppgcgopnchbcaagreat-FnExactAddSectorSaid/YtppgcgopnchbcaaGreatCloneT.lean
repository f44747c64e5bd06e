/- Contracts: slices.Clone over slices of structs. Conditions: bounded lengths. -/
import Derived.Test.YtppgcgopnchbcaaGreatRaw
import Derived.Test.YtppgcgopnchbcaaGreatTypes
import Derived.Test.YtppgcgopnchbcaaGreatInts2
import Derived.Test.YtppgcgopnchbcaaGreatHMode
import Derived.Test.YtppgcgopnchbcaaGreatHSite
import Derived.Test.YtppgcgopnchbcaaGreatHSector
import Derived.Test.YtppgcgopnchbcaaGreatHAntenna
import Derived.Test.YtppgcgopnchbcaaGreatHRadio
import Derived.WalkSpells
import Derived.Lib.LazyBuf
namespace Go.Proofs.YtppgcgopnchbcaaGreat
open Go.RowKit
set_option linter.unusedVariables false

theorem DMode.one (l : List DMode) : ∀ t ∈ l.flatMap DMode.tr, oneT t := by
  intro t ht
  obtain ⟨x, _, hx⟩ := List.mem_flatMap.1 ht
  simp only [DMode.tr, List.mem_cons, List.not_mem_nil, or_false] at hx
  rcases hx with rfl | rfl <;> first | rfl | trivial
theorem DMode.lits (l : List DMode) : ∀ t ∈ l.flatMap DMode.tr, ∃ v, t = .lit v := by
  intro t ht
  obtain ⟨x, _, hx⟩ := List.mem_flatMap.1 ht
  simp only [DMode.tr, List.mem_cons, List.not_mem_nil, or_false] at hx
  rcases hx with rfl | rfl <;> exact ⟨_, rfl⟩
theorem grow_Mode {B : Nat} {w w' : World} {base E n : Nat} {v : Value} {l : List DMode} {xs : List Value} (h : w'.ownsRow base E 2 v n xs) (hx : RdV B w (l.flatMap DMode.tr) xs) : Grow w' base E 2 v n (l.flatMap DMode.tr) [] := grow_flat h hx (DMode.lits l)
theorem DMode.raw {B : Nat} {w : World} {l : List DMode} {v : Value} (h : Rd B w (DMode.sT l) v) : ∃ a c xs, v = .slice a l.length c ∧ l.length ≤ c ∧ c ≤ maxLen ∧ Reads w B 2 a l.length xs ∧ RdV B w (l.flatMap DMode.tr) xs ∧ ∀ u ∈ xs, u.oneCell' = true := by
  obtain ⟨a, n, c, xs, hv, hl, hnc, hcm, hrd, hx, h1⟩ := Rd.raw h (by decide) (DMode.one l)
  rw [flat_length DMode.tr 2 DMode.tr_len] at hl
  obtain rfl : l.length = n := Nat.eq_of_mul_eq_mul_right (by decide) hl
  exact ⟨a, c, xs, hv, hnc, hcm, hrd, hx, h1⟩
set_option maxHeartbeats 400000 in
theorem cloneMode_raw (l : List DMode) (v : Value) (B : Nat) (w : World) (h : Rd B w (DMode.sT l) v) (hB : B ≤ w.heap.size) (hn : l.length ≤ 1048576) :
    Calls Tryz.prog 101 #[v] w fun e w' => ∃ a' c' xs, e = .returned (.slice a' l.length c') ∧ Below w.heap.size w w' ∧ w'.ownsRow w.heap.size 140 2 (.slice a' l.length c') l.length xs ∧ RdV B w (l.flatMap DMode.tr) xs := by
  obtain ⟨i0, hi0, hz0, hz1, hz2⟩ := info_parts infoMode
  obtain ⟨a, c, xs, rfl, hnc, hcm, hrd, hx, h1⟩ := DMode.raw h
  have HR := Lib.hid hrd
  have H1 := Lib.hid h1
  have HX := Lib.hid hx
  cases a with
  | none =>
    have hl : l = [] := by
      rcases Nat.eq_zero_or_pos l.length with h0 | h0
      · exact List.eq_nil_of_length_eq_zero h0
      · obtain ⟨ad, e, _⟩ := hrd.2 h0
        cases e
    subst hl
    clear hrd h1 hx h
    have heq := fun (W : World) => Go.run_eql_slice_nil (P := Tryz.prog) W 123 140 none 0 c Tryz.underlying123
    go_enter Tryz.func101, Tryz.ntmps101
    go_wp2
    go_ret
    exact ⟨none, 0, [], rfl, Below.refl _ _, ⟨by simp, Or.inl ⟨rfl, rfl⟩⟩, trivial⟩
  | some ad =>
    clear hrd h1 hx h
    have heq := fun (W : World) => Go.run_eql_slice_nil (P := Tryz.prog) W 123 140 (some ad) l.length c Tryz.underlying123
    go_enter Tryz.func101, Tryz.ntmps101
    go_wp2_with (at_builtin; refine wpList_append_any _ rfl (.tmp 5) (.tmp 6) _ rfl w.heap.size 140 i0 _ 2 16 Tryz.underlying123 hi0 hz0 hz1 hz2 rfl (by omega) (.slice (some ⟨w.heap.size, 0, none⟩) 0 0) 0 [] rfl (own_emptyK w _ _) B (some ad) l.length c xs rfl (HR.out.alloc hB _) H1.out (by simp only [maxLen]; omega) (by omega) (by simp) ?_; intro v1 w1 hown1 hg1 hat1)
    have hb1 : Below w.heap.size w w1 := ((Below.refl _ _).alloc (Nat.le_refl _) _).grown hg1 (by simp) (fun k hk => by simp [Value.ownBlock] at hk; omega)
    have how : w1.ownsRow w.heap.size 140 2 v1 l.length xs := by simpa using hown1
    obtain ⟨a', c', rfl, _⟩ := ownsRow_slice how
    have HO := Lib.hid how
    clear hown1 hg1 hat1 how
    go_wp2
    go_ret
    exact ⟨a', c', xs, rfl, hb1, HO.out, HX.out⟩
theorem cloneMode_any (l : List DMode) (v : Value) (w : World) (h : Rd w.heap.size w (DMode.sT l) v) (hn : l.length ≤ 1048576) :
    Calls Tryz.prog 101 #[v] w fun e w' => ∃ a' c' fp, e = .returned (.slice a' l.length c') ∧ Below w.heap.size w w' ∧ Own w' (DMode.sT l) (.slice a' l.length c') fp ∧ In w.heap.size w'.heap.size fp := by
  refine (cloneMode_raw l v w.heap.size w h (Nat.le_refl _) hn).mono ?_
  rintro e w' ⟨a', c', xs, rfl, hb, ho, hx⟩
  obtain ⟨a2, c2, fp, e2, hO, hI⟩ := (grow_Mode ho hx).toOwn (lo := w.heap.size) (by decide) In.nil (Nat.le_refl _)
  injection e2 with e3 _ e4
  subst e3 e4
  exact ⟨a', c', fp, rfl, hb, hO, hI⟩
theorem DSite.one (l : List DSite) : ∀ t ∈ l.flatMap DSite.tr, oneT t := by
  intro t ht
  obtain ⟨x, _, hx⟩ := List.mem_flatMap.1 ht
  simp only [DSite.tr, List.mem_cons, List.not_mem_nil, or_false] at hx
  rcases hx with rfl | rfl | rfl | rfl <;> first | rfl | trivial
theorem DSite.lits (l : List DSite) : ∀ t ∈ l.flatMap DSite.tr, ∃ v, t = .lit v := by
  intro t ht
  obtain ⟨x, _, hx⟩ := List.mem_flatMap.1 ht
  simp only [DSite.tr, List.mem_cons, List.not_mem_nil, or_false] at hx
  rcases hx with rfl | rfl | rfl | rfl <;> exact ⟨_, rfl⟩
theorem grow_Site {B : Nat} {w w' : World} {base E n : Nat} {v : Value} {l : List DSite} {xs : List Value} (h : w'.ownsRow base E 4 v n xs) (hx : RdV B w (l.flatMap DSite.tr) xs) : Grow w' base E 4 v n (l.flatMap DSite.tr) [] := grow_flat h hx (DSite.lits l)
theorem DSite.raw {B : Nat} {w : World} {l : List DSite} {v : Value} (h : Rd B w (DSite.sT l) v) : ∃ a c xs, v = .slice a l.length c ∧ l.length ≤ c ∧ c ≤ maxLen ∧ Reads w B 4 a l.length xs ∧ RdV B w (l.flatMap DSite.tr) xs ∧ ∀ u ∈ xs, u.oneCell' = true := by
  obtain ⟨a, n, c, xs, hv, hl, hnc, hcm, hrd, hx, h1⟩ := Rd.raw h (by decide) (DSite.one l)
  rw [flat_length DSite.tr 4 DSite.tr_len] at hl
  obtain rfl : l.length = n := Nat.eq_of_mul_eq_mul_right (by decide) hl
  exact ⟨a, c, xs, hv, hnc, hcm, hrd, hx, h1⟩
set_option maxHeartbeats 400000 in
theorem cloneSite_raw (l : List DSite) (v : Value) (B : Nat) (w : World) (h : Rd B w (DSite.sT l) v) (hB : B ≤ w.heap.size) (hn : l.length ≤ 1048576) :
    Calls Tryz.prog 96 #[v] w fun e w' => ∃ a' c' xs, e = .returned (.slice a' l.length c') ∧ Below w.heap.size w w' ∧ w'.ownsRow w.heap.size 62 4 (.slice a' l.length c') l.length xs ∧ RdV B w (l.flatMap DSite.tr) xs := by
  obtain ⟨i0, hi0, hz0, hz1, hz2⟩ := info_parts infoSite
  obtain ⟨a, c, xs, rfl, hnc, hcm, hrd, hx, h1⟩ := DSite.raw h
  have HR := Lib.hid hrd
  have H1 := Lib.hid h1
  have HX := Lib.hid hx
  cases a with
  | none =>
    have hl : l = [] := by
      rcases Nat.eq_zero_or_pos l.length with h0 | h0
      · exact List.eq_nil_of_length_eq_zero h0
      · obtain ⟨ad, e, _⟩ := hrd.2 h0
        cases e
    subst hl
    clear hrd h1 hx h
    have heq := fun (W : World) => Go.run_eql_slice_nil (P := Tryz.prog) W 30 62 none 0 c Tryz.underlying30
    go_enter Tryz.func96, Tryz.ntmps96
    go_wp2
    go_ret
    exact ⟨none, 0, [], rfl, Below.refl _ _, ⟨by simp, Or.inl ⟨rfl, rfl⟩⟩, trivial⟩
  | some ad =>
    clear hrd h1 hx h
    have heq := fun (W : World) => Go.run_eql_slice_nil (P := Tryz.prog) W 30 62 (some ad) l.length c Tryz.underlying30
    go_enter Tryz.func96, Tryz.ntmps96
    go_wp2_with (at_builtin; refine wpList_append_any _ rfl (.tmp 5) (.tmp 6) _ rfl w.heap.size 62 i0 _ 4 48 Tryz.underlying30 hi0 hz0 hz1 hz2 rfl (by omega) (.slice (some ⟨w.heap.size, 0, none⟩) 0 0) 0 [] rfl (own_emptyK w _ _) B (some ad) l.length c xs rfl (HR.out.alloc hB _) H1.out (by simp only [maxLen]; omega) (by omega) (by simp) ?_; intro v1 w1 hown1 hg1 hat1)
    have hb1 : Below w.heap.size w w1 := ((Below.refl _ _).alloc (Nat.le_refl _) _).grown hg1 (by simp) (fun k hk => by simp [Value.ownBlock] at hk; omega)
    have how : w1.ownsRow w.heap.size 62 4 v1 l.length xs := by simpa using hown1
    obtain ⟨a', c', rfl, _⟩ := ownsRow_slice how
    have HO := Lib.hid how
    clear hown1 hg1 hat1 how
    go_wp2
    go_ret
    exact ⟨a', c', xs, rfl, hb1, HO.out, HX.out⟩
theorem cloneSite_any (l : List DSite) (v : Value) (w : World) (h : Rd w.heap.size w (DSite.sT l) v) (hn : l.length ≤ 1048576) :
    Calls Tryz.prog 96 #[v] w fun e w' => ∃ a' c' fp, e = .returned (.slice a' l.length c') ∧ Below w.heap.size w w' ∧ Own w' (DSite.sT l) (.slice a' l.length c') fp ∧ In w.heap.size w'.heap.size fp := by
  refine (cloneSite_raw l v w.heap.size w h (Nat.le_refl _) hn).mono ?_
  rintro e w' ⟨a', c', xs, rfl, hb, ho, hx⟩
  obtain ⟨a2, c2, fp, e2, hO, hI⟩ := (grow_Site ho hx).toOwn (lo := w.heap.size) (by decide) In.nil (Nat.le_refl _)
  injection e2 with e3 _ e4
  subst e3 e4
  exact ⟨a', c', fp, rfl, hb, hO, hI⟩
theorem DSector.one (l : List DSector) : ∀ t ∈ l.flatMap DSector.tr, oneT t := by
  intro t ht
  obtain ⟨x, _, hx⟩ := List.mem_flatMap.1 ht
  simp only [DSector.tr, List.mem_cons, List.not_mem_nil, or_false] at hx
  rcases hx with rfl | rfl | rfl | rfl | rfl | rfl | rfl | rfl | rfl <;> first | rfl | trivial
theorem DSector.lits (l : List DSector) : ∀ t ∈ l.flatMap DSector.tr, ∃ v, t = .lit v := by
  intro t ht
  obtain ⟨x, _, hx⟩ := List.mem_flatMap.1 ht
  simp only [DSector.tr, List.mem_cons, List.not_mem_nil, or_false] at hx
  rcases hx with rfl | rfl | rfl | rfl | rfl | rfl | rfl | rfl | rfl <;> exact ⟨_, rfl⟩
theorem grow_Sector {B : Nat} {w w' : World} {base E n : Nat} {v : Value} {l : List DSector} {xs : List Value} (h : w'.ownsRow base E 9 v n xs) (hx : RdV B w (l.flatMap DSector.tr) xs) : Grow w' base E 9 v n (l.flatMap DSector.tr) [] := grow_flat h hx (DSector.lits l)
theorem DSector.raw {B : Nat} {w : World} {l : List DSector} {v : Value} (h : Rd B w (DSector.sT l) v) : ∃ a c xs, v = .slice a l.length c ∧ l.length ≤ c ∧ c ≤ maxLen ∧ Reads w B 9 a l.length xs ∧ RdV B w (l.flatMap DSector.tr) xs ∧ ∀ u ∈ xs, u.oneCell' = true := by
  obtain ⟨a, n, c, xs, hv, hl, hnc, hcm, hrd, hx, h1⟩ := Rd.raw h (by decide) (DSector.one l)
  rw [flat_length DSector.tr 9 DSector.tr_len] at hl
  obtain rfl : l.length = n := Nat.eq_of_mul_eq_mul_right (by decide) hl
  exact ⟨a, c, xs, hv, hnc, hcm, hrd, hx, h1⟩
set_option maxHeartbeats 400000 in
theorem cloneSector_raw (l : List DSector) (v : Value) (B : Nat) (w : World) (h : Rd B w (DSector.sT l) v) (hB : B ≤ w.heap.size) (hn : l.length ≤ 1048576) :
    Calls Tryz.prog 97 #[v] w fun e w' => ∃ a' c' xs, e = .returned (.slice a' l.length c') ∧ Below w.heap.size w w' ∧ w'.ownsRow w.heap.size 49 9 (.slice a' l.length c') l.length xs ∧ RdV B w (l.flatMap DSector.tr) xs := by
  obtain ⟨i0, hi0, hz0, hz1, hz2⟩ := info_parts infoSector
  obtain ⟨a, c, xs, rfl, hnc, hcm, hrd, hx, h1⟩ := DSector.raw h
  have HR := Lib.hid hrd
  have H1 := Lib.hid h1
  have HX := Lib.hid hx
  cases a with
  | none =>
    have hl : l = [] := by
      rcases Nat.eq_zero_or_pos l.length with h0 | h0
      · exact List.eq_nil_of_length_eq_zero h0
      · obtain ⟨ad, e, _⟩ := hrd.2 h0
        cases e
    subst hl
    clear hrd h1 hx h
    have heq := fun (W : World) => Go.run_eql_slice_nil (P := Tryz.prog) W 31 49 none 0 c Tryz.underlying31
    go_enter Tryz.func97, Tryz.ntmps97
    go_wp2
    go_ret
    exact ⟨none, 0, [], rfl, Below.refl _ _, ⟨by simp, Or.inl ⟨rfl, rfl⟩⟩, trivial⟩
  | some ad =>
    clear hrd h1 hx h
    have heq := fun (W : World) => Go.run_eql_slice_nil (P := Tryz.prog) W 31 49 (some ad) l.length c Tryz.underlying31
    go_enter Tryz.func97, Tryz.ntmps97
    go_wp2_with (at_builtin; refine wpList_append_any _ rfl (.tmp 5) (.tmp 6) _ rfl w.heap.size 49 i0 _ 9 112 Tryz.underlying31 hi0 hz0 hz1 hz2 rfl (by omega) (.slice (some ⟨w.heap.size, 0, none⟩) 0 0) 0 [] rfl (own_emptyK w _ _) B (some ad) l.length c xs rfl (HR.out.alloc hB _) H1.out (by simp only [maxLen]; omega) (by omega) (by simp) ?_; intro v1 w1 hown1 hg1 hat1)
    have hb1 : Below w.heap.size w w1 := ((Below.refl _ _).alloc (Nat.le_refl _) _).grown hg1 (by simp) (fun k hk => by simp [Value.ownBlock] at hk; omega)
    have how : w1.ownsRow w.heap.size 49 9 v1 l.length xs := by simpa using hown1
    obtain ⟨a', c', rfl, _⟩ := ownsRow_slice how
    have HO := Lib.hid how
    clear hown1 hg1 hat1 how
    go_wp2
    go_ret
    exact ⟨a', c', xs, rfl, hb1, HO.out, HX.out⟩
theorem cloneSector_any (l : List DSector) (v : Value) (w : World) (h : Rd w.heap.size w (DSector.sT l) v) (hn : l.length ≤ 1048576) :
    Calls Tryz.prog 97 #[v] w fun e w' => ∃ a' c' fp, e = .returned (.slice a' l.length c') ∧ Below w.heap.size w w' ∧ Own w' (DSector.sT l) (.slice a' l.length c') fp ∧ In w.heap.size w'.heap.size fp := by
  refine (cloneSector_raw l v w.heap.size w h (Nat.le_refl _) hn).mono ?_
  rintro e w' ⟨a', c', xs, rfl, hb, ho, hx⟩
  obtain ⟨a2, c2, fp, e2, hO, hI⟩ := (grow_Sector ho hx).toOwn (lo := w.heap.size) (by decide) In.nil (Nat.le_refl _)
  injection e2 with e3 _ e4
  subst e3 e4
  exact ⟨a', c', fp, rfl, hb, hO, hI⟩
theorem DAntenna.one (l : List DAntenna) : ∀ t ∈ l.flatMap DAntenna.tr, oneT t := by
  intro t ht
  obtain ⟨x, _, hx⟩ := List.mem_flatMap.1 ht
  simp only [DAntenna.tr, List.mem_cons, List.not_mem_nil, or_false] at hx
  rcases hx with rfl | rfl | rfl | rfl <;> first | rfl | trivial
theorem DAntenna.raw {B : Nat} {w : World} {l : List DAntenna} {v : Value} (h : Rd B w (DAntenna.sT l) v) : ∃ a c xs, v = .slice a l.length c ∧ l.length ≤ c ∧ c ≤ maxLen ∧ Reads w B 4 a l.length xs ∧ RdV B w (l.flatMap DAntenna.tr) xs ∧ ∀ u ∈ xs, u.oneCell' = true := by
  obtain ⟨a, n, c, xs, hv, hl, hnc, hcm, hrd, hx, h1⟩ := Rd.raw h (by decide) (DAntenna.one l)
  rw [flat_length DAntenna.tr 4 DAntenna.tr_len] at hl
  obtain rfl : l.length = n := Nat.eq_of_mul_eq_mul_right (by decide) hl
  exact ⟨a, c, xs, hv, hnc, hcm, hrd, hx, h1⟩
set_option maxHeartbeats 400000 in
theorem cloneAntenna_raw (l : List DAntenna) (v : Value) (B : Nat) (w : World) (h : Rd B w (DAntenna.sT l) v) (hB : B ≤ w.heap.size) (hn : l.length ≤ 1048576) :
    Calls Tryz.prog 98 #[v] w fun e w' => ∃ a' c' xs, e = .returned (.slice a' l.length c') ∧ Below w.heap.size w w' ∧ w'.ownsRow w.heap.size 120 4 (.slice a' l.length c') l.length xs ∧ RdV B w (l.flatMap DAntenna.tr) xs := by
  obtain ⟨i0, hi0, hz0, hz1, hz2⟩ := info_parts infoAntenna
  obtain ⟨a, c, xs, rfl, hnc, hcm, hrd, hx, h1⟩ := DAntenna.raw h
  have HR := Lib.hid hrd
  have H1 := Lib.hid h1
  have HX := Lib.hid hx
  cases a with
  | none =>
    have hl : l = [] := by
      rcases Nat.eq_zero_or_pos l.length with h0 | h0
      · exact List.eq_nil_of_length_eq_zero h0
      · obtain ⟨ad, e, _⟩ := hrd.2 h0
        cases e
    subst hl
    clear hrd h1 hx h
    have heq := fun (W : World) => Go.run_eql_slice_nil (P := Tryz.prog) W 32 120 none 0 c Tryz.underlying32
    go_enter Tryz.func98, Tryz.ntmps98
    go_wp2
    go_ret
    exact ⟨none, 0, [], rfl, Below.refl _ _, ⟨by simp, Or.inl ⟨rfl, rfl⟩⟩, trivial⟩
  | some ad =>
    clear hrd h1 hx h
    have heq := fun (W : World) => Go.run_eql_slice_nil (P := Tryz.prog) W 32 120 (some ad) l.length c Tryz.underlying32
    go_enter Tryz.func98, Tryz.ntmps98
    go_wp2_with (at_builtin; refine wpList_append_any _ rfl (.tmp 5) (.tmp 6) _ rfl w.heap.size 120 i0 _ 4 72 Tryz.underlying32 hi0 hz0 hz1 hz2 rfl (by omega) (.slice (some ⟨w.heap.size, 0, none⟩) 0 0) 0 [] rfl (own_emptyK w _ _) B (some ad) l.length c xs rfl (HR.out.alloc hB _) H1.out (by simp only [maxLen]; omega) (by omega) (by simp) ?_; intro v1 w1 hown1 hg1 hat1)
    have hb1 : Below w.heap.size w w1 := ((Below.refl _ _).alloc (Nat.le_refl _) _).grown hg1 (by simp) (fun k hk => by simp [Value.ownBlock] at hk; omega)
    have how : w1.ownsRow w.heap.size 120 4 v1 l.length xs := by simpa using hown1
    obtain ⟨a', c', rfl, _⟩ := ownsRow_slice how
    have HO := Lib.hid how
    clear hown1 hg1 hat1 how
    go_wp2
    go_ret
    exact ⟨a', c', xs, rfl, hb1, HO.out, HX.out⟩
theorem DRadio.one (l : List DRadio) : ∀ t ∈ l.flatMap DRadio.tr, oneT t := by
  intro t ht
  obtain ⟨x, _, hx⟩ := List.mem_flatMap.1 ht
  simp only [DRadio.tr, List.mem_cons, List.not_mem_nil, or_false] at hx
  rcases hx with rfl | rfl | rfl | rfl | rfl | rfl <;> first | rfl | trivial
theorem DRadio.raw {B : Nat} {w : World} {l : List DRadio} {v : Value} (h : Rd B w (DRadio.sT l) v) : ∃ a c xs, v = .slice a l.length c ∧ l.length ≤ c ∧ c ≤ maxLen ∧ Reads w B 6 a l.length xs ∧ RdV B w (l.flatMap DRadio.tr) xs ∧ ∀ u ∈ xs, u.oneCell' = true := by
  obtain ⟨a, n, c, xs, hv, hl, hnc, hcm, hrd, hx, h1⟩ := Rd.raw h (by decide) (DRadio.one l)
  rw [flat_length DRadio.tr 6 DRadio.tr_len] at hl
  obtain rfl : l.length = n := Nat.eq_of_mul_eq_mul_right (by decide) hl
  exact ⟨a, c, xs, hv, hnc, hcm, hrd, hx, h1⟩
set_option maxHeartbeats 400000 in
theorem cloneRadio_raw (l : List DRadio) (v : Value) (B : Nat) (w : World) (h : Rd B w (DRadio.sT l) v) (hB : B ≤ w.heap.size) (hn : l.length ≤ 1048576) :
    Calls Tryz.prog 99 #[v] w fun e w' => ∃ a' c' xs, e = .returned (.slice a' l.length c') ∧ Below w.heap.size w w' ∧ w'.ownsRow w.heap.size 125 6 (.slice a' l.length c') l.length xs ∧ RdV B w (l.flatMap DRadio.tr) xs := by
  obtain ⟨i0, hi0, hz0, hz1, hz2⟩ := info_parts infoRadio
  obtain ⟨a, c, xs, rfl, hnc, hcm, hrd, hx, h1⟩ := DRadio.raw h
  have HR := Lib.hid hrd
  have H1 := Lib.hid h1
  have HX := Lib.hid hx
  cases a with
  | none =>
    have hl : l = [] := by
      rcases Nat.eq_zero_or_pos l.length with h0 | h0
      · exact List.eq_nil_of_length_eq_zero h0
      · obtain ⟨ad, e, _⟩ := hrd.2 h0
        cases e
    subst hl
    clear hrd h1 hx h
    have heq := fun (W : World) => Go.run_eql_slice_nil (P := Tryz.prog) W 33 125 none 0 c Tryz.underlying33
    go_enter Tryz.func99, Tryz.ntmps99
    go_wp2
    go_ret
    exact ⟨none, 0, [], rfl, Below.refl _ _, ⟨by simp, Or.inl ⟨rfl, rfl⟩⟩, trivial⟩
  | some ad =>
    clear hrd h1 hx h
    have heq := fun (W : World) => Go.run_eql_slice_nil (P := Tryz.prog) W 33 125 (some ad) l.length c Tryz.underlying33
    go_enter Tryz.func99, Tryz.ntmps99
    go_wp2_with (at_builtin; refine wpList_append_any _ rfl (.tmp 5) (.tmp 6) _ rfl w.heap.size 125 i0 _ 6 72 Tryz.underlying33 hi0 hz0 hz1 hz2 rfl (by omega) (.slice (some ⟨w.heap.size, 0, none⟩) 0 0) 0 [] rfl (own_emptyK w _ _) B (some ad) l.length c xs rfl (HR.out.alloc hB _) H1.out (by simp only [maxLen]; omega) (by omega) (by simp) ?_; intro v1 w1 hown1 hg1 hat1)
    have hb1 : Below w.heap.size w w1 := ((Below.refl _ _).alloc (Nat.le_refl _) _).grown hg1 (by simp) (fun k hk => by simp [Value.ownBlock] at hk; omega)
    have how : w1.ownsRow w.heap.size 125 6 v1 l.length xs := by simpa using hown1
    obtain ⟨a', c', rfl, _⟩ := ownsRow_slice how
    have HO := Lib.hid how
    clear hown1 hg1 hat1 how
    go_wp2
    go_ret
    exact ⟨a', c', xs, rfl, hb1, HO.out, HX.out⟩
end Go.Proofs.YtppgcgopnchbcaaGreat
