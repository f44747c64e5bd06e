/- From cells that fit a type to the Lean structures. -/
import Derived.Test.YtpnllibboeeaaaaOpen
namespace Go.Proofs.Ytpnllibboeeaaaa
open Go.RowKit
set_option linter.unusedVariables false

theorem fits_of {α : Type} (g : α → List Tr) (ok : α → Prop) (ys : List Ty) (hfit : ∀ ts, FitV ys ts → ∃ x, ts = g x ∧ ok x) {t : Tr} (h : Fit (.sl ys) t) : ∃ l : List α, t = .sl ys.length (l.flatMap g) ∧ ∀ x ∈ l, ok x := by
  obtain ⟨ess, rfl, hes⟩ := Fit_sl.1 h
  have key : ∀ (ess : List (List Tr)), (∀ es ∈ ess, FitV ys es) → ∃ l : List α, ess.flatten = l.flatMap g ∧ ∀ x ∈ l, ok x := by
    intro ess
    induction ess with
    | nil => intro _; exact ⟨[], rfl, fun x h => by simp at h⟩
    | cons es ess ih =>
      intro hh
      obtain ⟨l, h1, h2⟩ := ih (fun x hx => hh x (by simp [hx]))
      obtain ⟨x, rfl, hx⟩ := hfit es (hh es (by simp))
      refine ⟨x :: l, by rw [List.flatten_cons, List.flatMap_cons, h1], fun y hy => ?_⟩
      rcases List.mem_cons.1 hy with rfl | hy
      · exact hx
      · exact h2 y hy
  obtain ⟨l, h1, h2⟩ := key ess hes
  exact ⟨l, by rw [h1], h2⟩
theorem fit_ints {t : Tr} (h : Fit (.sl [.int]) t) : ∃ l : List Int, t = intsT l ∧ ∀ n ∈ l, I64 n := by
  obtain ⟨l, rfl, hk⟩ := fits_of (fun n : Int => [intT n]) I64 [.int] (fun ts h => by
    obtain ⟨t, r, rfl, h1, h2⟩ := FitV_cons.1 h
    obtain ⟨n, rfl, hn⟩ := Fit_int.1 h1
    rw [FitV_nil] at h2; subst h2
    exact ⟨n, rfl, hn⟩) h
  exact ⟨l, by rw [intsT, map_flat]; rfl, hk⟩
theorem fit_bytes {t : Tr} (h : Fit (.sl [.byte]) t) : ∃ l : List UInt8, t = .sl 1 (l.map fun b => .lit (.int .u8 (b.toNat : Int))) := by
  obtain ⟨l, rfl, hk⟩ := fits_of (fun b : UInt8 => [Tr.lit (.int .u8 (b.toNat : Int))]) (fun _ => True) [.byte] (fun ts h => by
    obtain ⟨t, r, rfl, h1, h2⟩ := FitV_cons.1 h
    obtain ⟨n, rfl⟩ := Fit_byte.1 h1
    rw [FitV_nil] at h2; subst h2
    exact ⟨n, rfl, trivial⟩) h
  exact ⟨l, by rw [map_flat]; rfl⟩
theorem fit_strs {t : Tr} (h : Fit (.sl [.str]) t) : ∃ l : List ByteArray, t = strsT l ∧ ∀ s ∈ l, s.size ≤ maxLen := by
  obtain ⟨l, rfl, hk⟩ := fits_of (fun n : ByteArray => [strT n]) (fun s => s.size ≤ maxLen) [.str] (fun ts h => by
    obtain ⟨t, r, rfl, h1, h2⟩ := FitV_cons.1 h
    obtain ⟨n, rfl, hn⟩ := Fit_str.1 h1
    rw [FitV_nil] at h2; subst h2
    exact ⟨n, rfl, hn⟩) h
  exact ⟨l, by rw [strsT, map_flat]; rfl, hk⟩
theorem fit_intss {t : Tr} (h : Fit (.sl [.sl [.int]]) t) : ∃ l : List (List Int), t = intssT l ∧ ∀ r ∈ l, ∀ n ∈ r, I64 n := by
  obtain ⟨l, rfl, hk⟩ := fits_of (fun r : List Int => [intsT r]) (fun r => ∀ n ∈ r, I64 n) [.sl [.int]] (fun ts h => by
    obtain ⟨t, r, rfl, h1, h2⟩ := FitV_cons.1 h
    obtain ⟨n, rfl, hn⟩ := fit_ints h1
    rw [FitV_nil] at h2; subst h2
    exact ⟨n, rfl, hn⟩) h
  exact ⟨l, by rw [intssT, map_flat]; rfl, hk⟩
def DPoint.ty : List Ty := [.int, .int]
def DMode.ty : List Ty := [.int, .int]
def DArea.ty : List Ty := [.int, .int, .int, .int]
def DEnd.ty : List Ty := [.int, .int, .int]
def DSite.ty : List Ty := [.str, .str, .int, .int]
def DSector.ty : List Ty := [.str, .str, .str, .str, .str, .int, .int, .int, .int]
def DAntenna.ty : List Ty := [.str, .int, .sl [.int], .sl [.int]]
def DRadio.ty : List Ty := [.str, .int, .int, .int, .int, .sl DMode.ty]
def DNetwork.ty : List Ty := [.sl DSite.ty, .sl DSector.ty, .sl DAntenna.ty, .sl DRadio.ty]
def DBand.ty : List Ty := [.str, .int, .int, .int, .int]
def DProblem.ty : List Ty := [.sl [.sl [.int]], .sl [.sl [.int]]]
def DLicence.ty : List Ty := [.str, .str, .int, .int, .int, .int, .int, .int, .int, .int, .int]
def DRequest.ty : List Ty := [.str, .str, .str, .int, .int, .int, .int, .int]
def DProtected.ty : List Ty := [.str, .int, .int, .int, .int, .int, .int]
def DRecord.ty : List Ty := [.str, .str]
def DChange.ty : List Ty := [.int, .str, .str, .str]
def DRegister.ty : List Ty := [.sl DRecord.ty, .sl DChange.ty]
def DSample.ty : List Ty := [.int, .int]
def DFit.ty : List Ty := [.int, .int]
def DFault.ty : List Ty := [.int, .str, .str]
def DTerrain.ty : List Ty := [.int, .int, .int, .sl [.int], .sl [.int]]
def DPlan.ty : List Ty := [.int, .int, .int, .sl [.int], .sl [.int], .sl DSite.ty, .sl DSector.ty, .sl DAntenna.ty, .sl DRadio.ty, .sl DBand.ty, .sl DLicence.ty, .sl DProtected.ty, .sl [.sl [.int]], .int]
def DDesk.ty : List Ty := [.int, .int, .int, .sl [.int], .sl [.int], .sl DSite.ty, .sl DSector.ty, .sl DAntenna.ty, .sl DRadio.ty, .sl DBand.ty, .sl DLicence.ty, .sl DProtected.ty, .sl [.sl [.int]], .int, .sl DRequest.ty]
def DRaster.ty : List Ty := [.int, .int, .int, .sl [.int], .sl [.int]]
end Go.Proofs.Ytpnllibboeeaaaa
