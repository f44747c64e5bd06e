/- Contracts: bands are valid, for the program and for the reference. Conditions: bounded lengths. -/
import Derived.Test.YtjgolknofmnppaaDoorPl1
import Derived.Test.YtjgolknofmnppaaDoorBlk
import Derived.Test.YtjgolknofmnppaaDoorOverTail
import Derived.Lib.MinMax
import Derived.Test.YtjgolknofmnppaaDoorNetC
namespace Go.Proofs.YtjgolknofmnppaaDoor

open Go.RowKit
set_option linter.unusedVariables false
set_option linter.unusedSimpArgs false

def cntB (x : DBand) : Int := (x.high - x.low).tdiv x.raster
def bandB (x : DBand) : Bool := nameB x.name && (inB x.low 1 100000000 && (inB x.high x.low 100000000 && (inB x.raster 1 100000 && (inB (cntB x) 1 1000 && ((x.duplex == 0) || inB x.duplex (x.high - x.low) (100000000 - x.high))))))
def bandS (x : DBand) : Bool := nameB x.name && (inB x.low 1 100000000 && (inB x.high 1 100000000 && (inB x.raster 1 100000 && (inB x.duplex 0 100000000 && (inB (cntB x) 1 1000 && ((x.duplex == 0) || (decide (x.high - x.low ≤ x.duplex) && decide (x.high + x.duplex ≤ 100000000))))))))
theorem cntB_of {x : DBand} (h : 0 ≤ x.high - x.low) : cntB x = (x.high - x.low) / x.raster := Int.tdiv_eq_ediv_of_nonneg h
theorem bandS_eq (x : DBand) : bandS x = bandB x := by
  unfold bandS bandB
  rw [Bool.eq_iff_iff]
  simp only [inB, Bool.and_eq_true, Bool.or_eq_true, decide_eq_true_eq, beq_iff_eq]
  constructor
  · rintro ⟨h0, h1, h2, h3, h4, h5, h6⟩
    have h7 : x.low ≤ x.high := by
      rcases Int.lt_or_le x.high x.low with hl | hl
      · have : cntB x ≤ 0 := by
          unfold cntB
          have e : x.high - x.low = -(x.low - x.high) := by omega
          rw [e, Int.neg_tdiv]
          have : 0 ≤ (x.low - x.high).tdiv x.raster := Int.tdiv_nonneg (by omega) (by omega)
          omega
        omega
      · exact hl
    exact ⟨h0, h1, ⟨h7, h2.2⟩, h3, h5, h6.imp id (fun h => ⟨h.1, by omega⟩)⟩
  · rintro ⟨h0, h1, h2, h3, h5, h6⟩
    refine ⟨h0, h1, ⟨by omega, h2.2⟩, h3, ?_, h5, h6.imp id (fun h => ⟨h.1, by omega⟩)⟩
    rcases h6 with h6 | h6 <;> omega

open Go.RowKit
set_option linter.unusedVariables false
set_option linter.unusedSimpArgs false

def meetA (a b : DArea) : DArea := ⟨max a.west b.west, max a.south b.south, min a.east b.east, min a.north b.north⟩
def meetB (a b : DArea) : Bool := areaB a && (areaB b && areaB (meetA a b))
def clashB (a b : DLicence) : Bool := decide (a.low < b.high) && (decide (b.low < a.high) && (areaB (meetA a.area b.area) && (decide (a.from_ ≤ b.until_) && decide (b.from_ ≤ a.until_))))
def clashF (a b : DLicence) : Bool := licB a && (licB b && (meetB a.area b.area && (decide (a.from_ ≤ b.until_) && (decide (b.from_ ≤ a.until_) && (decide (a.low < b.high) && decide (b.low < a.high))))))
theorem licB_area {x : DLicence} (h : licB x = true) : areaB x.area = true := by
  unfold licB at h
  simp only [Bool.and_eq_true] at h
  exact h.2.2.2.2.2.1
theorem clashF_eq {a b : DLicence} (ha : licB a = true) (hb : licB b = true) : clashF a b = clashB a b := by
  unfold clashF clashB meetB
  rw [ha, hb, licB_area ha, licB_area hb]
  simp only [Bool.true_and]
  generalize areaB (meetA a.area b.area) = x0
  generalize decide (a.from_ ≤ b.until_) = x1
  generalize decide (b.from_ ≤ a.until_) = x2
  generalize decide (a.low < b.high) = x3
  generalize decide (b.low < a.high) = x4
  cases x0 <;> cases x1 <;> cases x2 <;> cases x3 <;> cases x4 <;> rfl

open Go.RowKit
set_option linter.unusedVariables false
set_option linter.unusedSimpArgs false

def gBand (l : List DBand) (i : Nat) : DBand := l.getD i ⟨⟨#[]⟩, 0, 0, 0, 0⟩
theorem gBand_eq {l : List DBand} {i : Nat} (h : i < l.length) : l[i] = gBand l i := by simp [gBand, h]
def ltBand (p x : DBand) : Bool := ltS p.name x.name
def gProtected (l : List DProtected) (i : Nat) : DProtected := l.getD i ⟨⟨#[]⟩, ⟨⟨0, 0⟩, 0⟩, 0, 0, 0⟩
theorem gProtected_eq {l : List DProtected} {i : Nat} (h : i < l.length) : l[i] = gProtected l i := by simp [gProtected, h]
def ltProtected (p x : DProtected) : Bool := ltS p.name x.name
def gLicence (l : List DLicence) (i : Nat) : DLicence := l.getD i ⟨⟨#[]⟩, ⟨#[]⟩, 0, 0, ⟨0, 0, 0, 0⟩, 0, 0, 0⟩
theorem gLicence_eq {l : List DLicence} {i : Nat} (h : i < l.length) : l[i] = gLicence l i := by simp [gLicence, h]
def ltLicence (p x : DLicence) : Bool := ltS p.id x.id
def bandsB (l : List DBand) : Bool := decide (l.length ≤ 8) && rowOk bandB ltBand l
def protsB (l : List DProtected) : Bool := decide (l.length ≤ 12) && rowOk protB ltProtected l
end Go.Proofs.YtjgolknofmnppaaDoor
