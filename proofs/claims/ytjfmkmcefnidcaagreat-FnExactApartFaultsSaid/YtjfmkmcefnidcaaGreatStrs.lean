/- Contracts of the laws' helpers over slices of texts; counts of marks against sizes. Conditions: bounded lengths. -/
import Derived.Test.YtjfmkmcefnidcaaGreatInts2
import Derived.Test.YtjfmkmcefnidcaaGreatTypes
import Derived.Test.YtjfmkmcefnidcaaGreatOver
import Derived.Test.YtjfmkmcefnidcaaGreatText
namespace Go.Proofs.YtjfmkmcefnidcaaGreat
open Go.RowKit
set_option linter.unusedVariables false

theorem strsT_flat (l : List ByteArray) : strsT l = .sl 1 (l.flatMap fun x => [strT x]) := by rw [strsT, map_flat]
theorem cntL_strs (l : List ByteArray) : cntL (l.map strT) = l.length := by
  induction l with
  | nil => rfl
  | cons x l ih => simp only [List.map_cons, cntL, ih, strT, cnt, List.length_cons]; omega
theorem cnt_strs (l : List ByteArray) : cnt (strsT l) = l.length := by rw [strsT, cnt, cntL_strs]
theorem siz_strs (l : List ByteArray) : siz (strsT l) = l.length + (l.map ByteArray.size).sum := by
  rw [strsT, siz, List.length_map, Nat.div_one]
  congr 1
  induction l with
  | nil => rfl
  | cons x l ih => simp only [List.map_cons, sizL, strT, siz, List.sum_cons, ih]

/-! ### counts against sizes -/
theorem cnt_flat_le {α : Type} (g : α → List Tr) (k K : Nat) (hk : 0 < k) (hg : ∀ x, (g x).length = k) (hc : ∀ x, cntL (g x) ≤ K + K * sizL (g x)) (l : List α) : cnt (.sl k (l.flatMap g)) ≤ K * siz (.sl k (l.flatMap g)) := by
  rw [siz_flat g k hk hg, cnt]
  induction l with
  | nil => simp [cntL]
  | cons x l ih =>
    rw [List.flatMap_cons, cntL_append, sizL_append, List.length_cons]
    have h1 := hc x
    rw [Nat.mul_add] at ih ⊢
    rw [Nat.mul_add, Nat.mul_add]
    omega
theorem DSite.cnt_le (l : List DSite) : cnt (DSite.sT l) ≤ 16 * siz (DSite.sT l) := cnt_flat_le DSite.tr 4 16 (by decide) DSite.tr_len (fun x => by simp only [DSite.tr, cntL, cnt, strT, intT]; omega) l
theorem DSector.cnt_le (l : List DSector) : cnt (DSector.sT l) ≤ 16 * siz (DSector.sT l) := cnt_flat_le DSector.tr 9 16 (by decide) DSector.tr_len (fun x => by simp only [DSector.tr, cntL, cnt, strT, intT]; omega) l
theorem DMode.cnt_le (l : List DMode) : cnt (DMode.sT l) ≤ 16 * siz (DMode.sT l) := cnt_flat_le DMode.tr 2 16 (by decide) DMode.tr_len (fun x => by simp only [DMode.tr, cntL, cnt, intT]; omega) l
theorem DAntenna.cnt_le (l : List DAntenna) : cnt (DAntenna.sT l) ≤ 16 * siz (DAntenna.sT l) := cnt_flat_le DAntenna.tr 4 16 (by decide) DAntenna.tr_len (fun x => by
  have h1 := cnt_ints x.horizontal
  have h2 := siz_ints x.horizontal
  have h3 := cnt_ints x.vertical
  have h4 := siz_ints x.vertical
  simp only [DAntenna.tr, cntL, sizL]
  have h5 : cnt (strT x.name) = 1 := rfl
  have h6 : cnt (intT x.gain) = 1 := rfl
  omega) l
theorem DRadio.cnt_le (l : List DRadio) : cnt (DRadio.sT l) ≤ 16 * siz (DRadio.sT l) := cnt_flat_le DRadio.tr 6 16 (by decide) DRadio.tr_len (fun x => by
  have h1 := DMode.cnt_le x.modes
  simp only [DRadio.tr, cntL, sizL]
  have h5 : cnt (strT x.name) = 1 := rfl
  have h6 : cnt (intT x.power) = 1 := rfl
  have h7 : cnt (intT x.feeder) = 1 := rfl
  have h8 : cnt (intT x.noise) = 1 := rfl
  have h9 : cnt (intT x.width) = 1 := rfl
  omega) l

/-! ### slices of texts -/
end Go.Proofs.YtjfmkmcefnidcaaGreat
