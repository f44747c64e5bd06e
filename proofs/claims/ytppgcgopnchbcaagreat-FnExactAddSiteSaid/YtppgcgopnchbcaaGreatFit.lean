/- From cells that fit a type to the Lean structures. -/
import Derived.Test.YtppgcgopnchbcaaGreatOpen
namespace Go.Proofs.YtppgcgopnchbcaaGreat
open Go.RowKit
set_option linter.unusedVariables false

theorem fits_of {α : Type} (g : α → List Tr) (ok : α → Prop) (ys : List Ty) (hfit : ∀ ts, FitV ys ts → ∃ x, ts = g x ∧ ok x) {t : Tr} (h : Fit (.sl ys) t) : ∃ l : List α, t = .sl ys.length (l.flatMap g) ∧ ∀ x ∈ l, ok x := by
  obtain ⟨ess, rfl, hes⟩ := Fit_sl.1 h
  have key : ∀ (ess : List (List Tr)), (∀ es ∈ ess, FitV ys es) → ∃ l : List α, ess.flatten = l.flatMap g ∧ ∀ x ∈ l, ok x := by
    intro ess
    induction ess with
    | nil => intro _; exact ⟨[], rfl, fun x h => by simp at h⟩
    | cons es ess ih =>
      intro hh
      obtain ⟨l, h1, h2⟩ := ih (fun x hx => hh x (by simp [hx]))
      obtain ⟨x, rfl, hx⟩ := hfit es (hh es (by simp))
      refine ⟨x :: l, by rw [List.flatten_cons, List.flatMap_cons, h1], fun y hy => ?_⟩
      rcases List.mem_cons.1 hy with rfl | hy
      · exact hx
      · exact h2 y hy
  obtain ⟨l, h1, h2⟩ := key ess hes
  exact ⟨l, by rw [h1], h2⟩
theorem fit_ints {t : Tr} (h : Fit (.sl [.int]) t) : ∃ l : List Int, t = intsT l ∧ ∀ n ∈ l, I64 n := by
  obtain ⟨l, rfl, hk⟩ := fits_of (fun n : Int => [intT n]) I64 [.int] (fun ts h => by
    obtain ⟨t, r, rfl, h1, h2⟩ := FitV_cons.1 h
    obtain ⟨n, rfl, hn⟩ := Fit_int.1 h1
    rw [FitV_nil] at h2; subst h2
    exact ⟨n, rfl, hn⟩) h
  exact ⟨l, by rw [intsT, map_flat]; rfl, hk⟩
theorem fit_strs {t : Tr} (h : Fit (.sl [.str]) t) : ∃ l : List ByteArray, t = strsT l ∧ ∀ s ∈ l, s.size ≤ maxLen := by
  obtain ⟨l, rfl, hk⟩ := fits_of (fun n : ByteArray => [strT n]) (fun s => s.size ≤ maxLen) [.str] (fun ts h => by
    obtain ⟨t, r, rfl, h1, h2⟩ := FitV_cons.1 h
    obtain ⟨n, rfl, hn⟩ := Fit_str.1 h1
    rw [FitV_nil] at h2; subst h2
    exact ⟨n, rfl, hn⟩) h
  exact ⟨l, by rw [strsT, map_flat]; rfl, hk⟩
theorem fit_intss {t : Tr} (h : Fit (.sl [.sl [.int]]) t) : ∃ l : List (List Int), t = intssT l ∧ ∀ r ∈ l, ∀ n ∈ r, I64 n := by
  obtain ⟨l, rfl, hk⟩ := fits_of (fun r : List Int => [intsT r]) (fun r => ∀ n ∈ r, I64 n) [.sl [.int]] (fun ts h => by
    obtain ⟨t, r, rfl, h1, h2⟩ := FitV_cons.1 h
    obtain ⟨n, rfl, hn⟩ := fit_ints h1
    rw [FitV_nil] at h2; subst h2
    exact ⟨n, rfl, hn⟩) h
  exact ⟨l, by rw [intssT, map_flat]; rfl, hk⟩
def DPoint.ty : List Ty := [.int, .int]
theorem DPoint.fit {ts : List Tr} (h0 : FitV DPoint.ty ts) : ∃ x : DPoint, ts = x.tr ∧ x.ok := by
  unfold DPoint.ty at h0
  obtain ⟨t0, r0, rfl, f0, h1⟩ := FitV_cons.1 h0
  obtain ⟨n0, rfl, b0⟩ := Fit_int.1 f0
  obtain ⟨t1, r1, rfl, f1, h2⟩ := FitV_cons.1 h1
  obtain ⟨n1, rfl, b1⟩ := Fit_int.1 f1
  rw [FitV_nil] at h2; subst h2
  exact ⟨⟨n0, n1⟩, rfl, ⟨b0, b1⟩⟩
theorem DPoint.fits {t : Tr} (h : Fit (.sl DPoint.ty) t) : ∃ l : List DPoint, t = DPoint.sT l ∧ ∀ x ∈ l, x.ok := fits_of DPoint.tr DPoint.ok DPoint.ty (fun ts h => DPoint.fit h) h
def DMode.ty : List Ty := [.int, .int]
theorem DMode.fit {ts : List Tr} (h0 : FitV DMode.ty ts) : ∃ x : DMode, ts = x.tr ∧ x.ok := by
  unfold DMode.ty at h0
  obtain ⟨t0, r0, rfl, f0, h1⟩ := FitV_cons.1 h0
  obtain ⟨n0, rfl, b0⟩ := Fit_int.1 f0
  obtain ⟨t1, r1, rfl, f1, h2⟩ := FitV_cons.1 h1
  obtain ⟨n1, rfl, b1⟩ := Fit_int.1 f1
  rw [FitV_nil] at h2; subst h2
  exact ⟨⟨n0, n1⟩, rfl, ⟨b0, b1⟩⟩
theorem DMode.fits {t : Tr} (h : Fit (.sl DMode.ty) t) : ∃ l : List DMode, t = DMode.sT l ∧ ∀ x ∈ l, x.ok := fits_of DMode.tr DMode.ok DMode.ty (fun ts h => DMode.fit h) h
def DArea.ty : List Ty := [.int, .int, .int, .int]
def DEnd.ty : List Ty := [.int, .int, .int]
def DSite.ty : List Ty := [.str, .str, .int, .int]
theorem DSite.fit {ts : List Tr} (h0 : FitV DSite.ty ts) : ∃ x : DSite, ts = x.tr ∧ x.ok := by
  unfold DSite.ty at h0
  obtain ⟨t0, r0, rfl, f0, h1⟩ := FitV_cons.1 h0
  obtain ⟨n0, rfl, b0⟩ := Fit_str.1 f0
  obtain ⟨t1, r1, rfl, f1, h2⟩ := FitV_cons.1 h1
  obtain ⟨n1, rfl, b1⟩ := Fit_str.1 f1
  obtain ⟨t2, r2, rfl, f2, h3⟩ := FitV_cons.1 h2
  obtain ⟨n2, rfl, b2⟩ := Fit_int.1 f2
  obtain ⟨t3, r3, rfl, f3, h4⟩ := FitV_cons.1 h3
  obtain ⟨n3, rfl, b3⟩ := Fit_int.1 f3
  rw [FitV_nil] at h4; subst h4
  exact ⟨⟨n0, n1, ⟨n2, n3⟩⟩, rfl, ⟨b0, b1, ⟨b2, b3⟩⟩⟩
theorem DSite.fits {t : Tr} (h : Fit (.sl DSite.ty) t) : ∃ l : List DSite, t = DSite.sT l ∧ ∀ x ∈ l, x.ok := fits_of DSite.tr DSite.ok DSite.ty (fun ts h => DSite.fit h) h
def DSector.ty : List Ty := [.str, .str, .str, .str, .str, .int, .int, .int, .int]
theorem DSector.fit {ts : List Tr} (h0 : FitV DSector.ty ts) : ∃ x : DSector, ts = x.tr ∧ x.ok := by
  unfold DSector.ty at h0
  obtain ⟨t0, r0, rfl, f0, h1⟩ := FitV_cons.1 h0
  obtain ⟨n0, rfl, b0⟩ := Fit_str.1 f0
  obtain ⟨t1, r1, rfl, f1, h2⟩ := FitV_cons.1 h1
  obtain ⟨n1, rfl, b1⟩ := Fit_str.1 f1
  obtain ⟨t2, r2, rfl, f2, h3⟩ := FitV_cons.1 h2
  obtain ⟨n2, rfl, b2⟩ := Fit_str.1 f2
  obtain ⟨t3, r3, rfl, f3, h4⟩ := FitV_cons.1 h3
  obtain ⟨n3, rfl, b3⟩ := Fit_str.1 f3
  obtain ⟨t4, r4, rfl, f4, h5⟩ := FitV_cons.1 h4
  obtain ⟨n4, rfl, b4⟩ := Fit_str.1 f4
  obtain ⟨t5, r5, rfl, f5, h6⟩ := FitV_cons.1 h5
  obtain ⟨n5, rfl, b5⟩ := Fit_int.1 f5
  obtain ⟨t6, r6, rfl, f6, h7⟩ := FitV_cons.1 h6
  obtain ⟨n6, rfl, b6⟩ := Fit_int.1 f6
  obtain ⟨t7, r7, rfl, f7, h8⟩ := FitV_cons.1 h7
  obtain ⟨n7, rfl, b7⟩ := Fit_int.1 f7
  obtain ⟨t8, r8, rfl, f8, h9⟩ := FitV_cons.1 h8
  obtain ⟨n8, rfl, b8⟩ := Fit_int.1 f8
  rw [FitV_nil] at h9; subst h9
  exact ⟨⟨n0, n1, n2, n3, n4, n5, n6, n7, n8⟩, rfl, ⟨b0, b1, b2, b3, b4, b5, b6, b7, b8⟩⟩
theorem DSector.fits {t : Tr} (h : Fit (.sl DSector.ty) t) : ∃ l : List DSector, t = DSector.sT l ∧ ∀ x ∈ l, x.ok := fits_of DSector.tr DSector.ok DSector.ty (fun ts h => DSector.fit h) h
def DAntenna.ty : List Ty := [.str, .int, .sl [.int], .sl [.int]]
theorem DAntenna.fit {ts : List Tr} (h0 : FitV DAntenna.ty ts) : ∃ x : DAntenna, ts = x.tr ∧ x.ok := by
  unfold DAntenna.ty at h0
  obtain ⟨t0, r0, rfl, f0, h1⟩ := FitV_cons.1 h0
  obtain ⟨n0, rfl, b0⟩ := Fit_str.1 f0
  obtain ⟨t1, r1, rfl, f1, h2⟩ := FitV_cons.1 h1
  obtain ⟨n1, rfl, b1⟩ := Fit_int.1 f1
  obtain ⟨t2, r2, rfl, f2, h3⟩ := FitV_cons.1 h2
  obtain ⟨n2, rfl, b2⟩ := fit_ints f2
  obtain ⟨t3, r3, rfl, f3, h4⟩ := FitV_cons.1 h3
  obtain ⟨n3, rfl, b3⟩ := fit_ints f3
  rw [FitV_nil] at h4; subst h4
  exact ⟨⟨n0, n1, n2, n3⟩, rfl, ⟨b0, b1, b2, b3⟩⟩
theorem DAntenna.fits {t : Tr} (h : Fit (.sl DAntenna.ty) t) : ∃ l : List DAntenna, t = DAntenna.sT l ∧ ∀ x ∈ l, x.ok := fits_of DAntenna.tr DAntenna.ok DAntenna.ty (fun ts h => DAntenna.fit h) h
def DRadio.ty : List Ty := [.str, .int, .int, .int, .int, .sl DMode.ty]
theorem DRadio.fit {ts : List Tr} (h0 : FitV DRadio.ty ts) : ∃ x : DRadio, ts = x.tr ∧ x.ok := by
  unfold DRadio.ty at h0
  obtain ⟨t0, r0, rfl, f0, h1⟩ := FitV_cons.1 h0
  obtain ⟨n0, rfl, b0⟩ := Fit_str.1 f0
  obtain ⟨t1, r1, rfl, f1, h2⟩ := FitV_cons.1 h1
  obtain ⟨n1, rfl, b1⟩ := Fit_int.1 f1
  obtain ⟨t2, r2, rfl, f2, h3⟩ := FitV_cons.1 h2
  obtain ⟨n2, rfl, b2⟩ := Fit_int.1 f2
  obtain ⟨t3, r3, rfl, f3, h4⟩ := FitV_cons.1 h3
  obtain ⟨n3, rfl, b3⟩ := Fit_int.1 f3
  obtain ⟨t4, r4, rfl, f4, h5⟩ := FitV_cons.1 h4
  obtain ⟨n4, rfl, b4⟩ := Fit_int.1 f4
  obtain ⟨t5, r5, rfl, f5, h6⟩ := FitV_cons.1 h5
  obtain ⟨n5, rfl, b5⟩ := DMode.fits f5
  rw [FitV_nil] at h6; subst h6
  exact ⟨⟨n0, n1, n2, n3, n4, n5⟩, rfl, ⟨b0, b1, b2, b3, b4, b5⟩⟩
theorem DRadio.fits {t : Tr} (h : Fit (.sl DRadio.ty) t) : ∃ l : List DRadio, t = DRadio.sT l ∧ ∀ x ∈ l, x.ok := fits_of DRadio.tr DRadio.ok DRadio.ty (fun ts h => DRadio.fit h) h
def DNetwork.ty : List Ty := [.sl DSite.ty, .sl DSector.ty, .sl DAntenna.ty, .sl DRadio.ty]
theorem DNetwork.fit {ts : List Tr} (h0 : FitV DNetwork.ty ts) : ∃ x : DNetwork, ts = x.tr ∧ x.ok := by
  unfold DNetwork.ty at h0
  obtain ⟨t0, r0, rfl, f0, h1⟩ := FitV_cons.1 h0
  obtain ⟨n0, rfl, b0⟩ := DSite.fits f0
  obtain ⟨t1, r1, rfl, f1, h2⟩ := FitV_cons.1 h1
  obtain ⟨n1, rfl, b1⟩ := DSector.fits f1
  obtain ⟨t2, r2, rfl, f2, h3⟩ := FitV_cons.1 h2
  obtain ⟨n2, rfl, b2⟩ := DAntenna.fits f2
  obtain ⟨t3, r3, rfl, f3, h4⟩ := FitV_cons.1 h3
  obtain ⟨n3, rfl, b3⟩ := DRadio.fits f3
  rw [FitV_nil] at h4; subst h4
  exact ⟨⟨n0, n1, n2, n3⟩, rfl, ⟨b0, b1, b2, b3⟩⟩
theorem DNetwork.fits {t : Tr} (h : Fit (.sl DNetwork.ty) t) : ∃ l : List DNetwork, t = DNetwork.sT l ∧ ∀ x ∈ l, x.ok := fits_of DNetwork.tr DNetwork.ok DNetwork.ty (fun ts h => DNetwork.fit h) h
def DBand.ty : List Ty := [.str, .int, .int, .int, .int]
def DProblem.ty : List Ty := [.sl [.sl [.int]], .sl [.sl [.int]]]
def DLicence.ty : List Ty := [.str, .str, .int, .int, .int, .int, .int, .int, .int, .int, .int]
def DRequest.ty : List Ty := [.str, .str, .str, .int, .int, .int, .int, .int]
def DProtected.ty : List Ty := [.str, .int, .int, .int, .int, .int, .int]
def DRecord.ty : List Ty := [.str, .str]
def DChange.ty : List Ty := [.int, .str, .str, .str]
def DRegister.ty : List Ty := [.sl DRecord.ty, .sl DChange.ty]
def DSample.ty : List Ty := [.int, .int]
def DFit.ty : List Ty := [.int, .int]
def DFault.ty : List Ty := [.int, .str, .str]
def DTerrain.ty : List Ty := [.int, .int, .int, .sl [.int], .sl [.int]]
def DPlan.ty : List Ty := [.int, .int, .int, .sl [.int], .sl [.int], .sl DSite.ty, .sl DSector.ty, .sl DAntenna.ty, .sl DRadio.ty, .sl DBand.ty, .sl DLicence.ty, .sl DProtected.ty, .sl [.sl [.int]], .int]
def DDesk.ty : List Ty := [.int, .int, .int, .sl [.int], .sl [.int], .sl DSite.ty, .sl DSector.ty, .sl DAntenna.ty, .sl DRadio.ty, .sl DBand.ty, .sl DLicence.ty, .sl DProtected.ty, .sl [.sl [.int]], .int, .sl DRequest.ty]
def DRaster.ty : List Ty := [.int, .int, .int, .sl [.int], .sl [.int]]
end Go.Proofs.YtppgcgopnchbcaaGreat
