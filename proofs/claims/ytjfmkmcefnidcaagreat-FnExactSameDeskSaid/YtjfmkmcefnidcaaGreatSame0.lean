/- Whether two things are equal, field by field. Plain lemmas. -/
import Derived.Test.YtjfmkmcefnidcaaGreatOrdS
import Derived.Test.YtjfmkmcefnidcaaGreatTypes
namespace Go.Proofs.YtjfmkmcefnidcaaGreat
set_option linter.unusedVariables false

def sameSite (a b : DSite) : Bool := (eqS a.name b.name && (eqS a.holder b.holder && ((a.place.x == b.place.x) && (a.place.y == b.place.y))))
def sameSiteS (l m : List DSite) : Bool := decide (l.length = m.length) && (List.range l.length).all (fun i => match l[i]?, m[i]? with | some a, some b => sameSite a b | _, _ => false)
theorem sameSiteS_len {l m : List DSite} (h : l.length ≠ m.length) : sameSiteS l m = false := by unfold sameSiteS; rw [decide_eq_false h]; rfl
theorem sameSiteS_at {l m : List DSite} {k : Nat} (hl : k < l.length) (hm : k < m.length) (h : sameSite l[k] m[k] = false) : sameSiteS l m = false := by
  unfold sameSiteS
  rw [Bool.and_eq_false_iff]
  right
  rw [List.all_eq_false]
  exact ⟨k, by simpa using hl, by rw [List.getElem?_eq_getElem hl, List.getElem?_eq_getElem hm]; simp [h]⟩
theorem sameSiteS_all {l m : List DSite} (e : l.length = m.length) (h : ∀ j (hl : j < l.length), sameSite l[j] (m[j]'(by omega)) = true) : sameSiteS l m = true := by
  unfold sameSiteS
  rw [decide_eq_true e, Bool.true_and, List.all_eq_true]
  intro j hj
  have hj' : j < l.length := by simpa using hj
  rw [List.getElem?_eq_getElem hj', List.getElem?_eq_getElem (show j < m.length by omega)]
  exact h j hj'
def sameSector (a b : DSector) : Bool := (eqS a.name b.name && (eqS a.site b.site && (eqS a.antenna b.antenna && (eqS a.radio b.radio && (eqS a.band b.band && ((a.azimuth == b.azimuth) && ((a.tilt == b.tilt) && ((a.above == b.above) && (a.channel == b.channel)))))))))
def sameSectorS (l m : List DSector) : Bool := decide (l.length = m.length) && (List.range l.length).all (fun i => match l[i]?, m[i]? with | some a, some b => sameSector a b | _, _ => false)
theorem sameSectorS_len {l m : List DSector} (h : l.length ≠ m.length) : sameSectorS l m = false := by unfold sameSectorS; rw [decide_eq_false h]; rfl
theorem sameSectorS_at {l m : List DSector} {k : Nat} (hl : k < l.length) (hm : k < m.length) (h : sameSector l[k] m[k] = false) : sameSectorS l m = false := by
  unfold sameSectorS
  rw [Bool.and_eq_false_iff]
  right
  rw [List.all_eq_false]
  exact ⟨k, by simpa using hl, by rw [List.getElem?_eq_getElem hl, List.getElem?_eq_getElem hm]; simp [h]⟩
theorem sameSectorS_all {l m : List DSector} (e : l.length = m.length) (h : ∀ j (hl : j < l.length), sameSector l[j] (m[j]'(by omega)) = true) : sameSectorS l m = true := by
  unfold sameSectorS
  rw [decide_eq_true e, Bool.true_and, List.all_eq_true]
  intro j hj
  have hj' : j < l.length := by simpa using hj
  rw [List.getElem?_eq_getElem hj', List.getElem?_eq_getElem (show j < m.length by omega)]
  exact h j hj'
def sameMode (a b : DMode) : Bool := ((a.need == b.need) && (a.rate == b.rate))
def sameModeS (l m : List DMode) : Bool := decide (l.length = m.length) && (List.range l.length).all (fun i => match l[i]?, m[i]? with | some a, some b => sameMode a b | _, _ => false)
theorem sameModeS_len {l m : List DMode} (h : l.length ≠ m.length) : sameModeS l m = false := by unfold sameModeS; rw [decide_eq_false h]; rfl
theorem sameModeS_at {l m : List DMode} {k : Nat} (hl : k < l.length) (hm : k < m.length) (h : sameMode l[k] m[k] = false) : sameModeS l m = false := by
  unfold sameModeS
  rw [Bool.and_eq_false_iff]
  right
  rw [List.all_eq_false]
  exact ⟨k, by simpa using hl, by rw [List.getElem?_eq_getElem hl, List.getElem?_eq_getElem hm]; simp [h]⟩
theorem sameModeS_all {l m : List DMode} (e : l.length = m.length) (h : ∀ j (hl : j < l.length), sameMode l[j] (m[j]'(by omega)) = true) : sameModeS l m = true := by
  unfold sameModeS
  rw [decide_eq_true e, Bool.true_and, List.all_eq_true]
  intro j hj
  have hj' : j < l.length := by simpa using hj
  rw [List.getElem?_eq_getElem hj', List.getElem?_eq_getElem (show j < m.length by omega)]
  exact h j hj'
def sameBand (a b : DBand) : Bool := (eqS a.name b.name && ((a.low == b.low) && ((a.high == b.high) && ((a.raster == b.raster) && (a.duplex == b.duplex)))))
def sameBandS (l m : List DBand) : Bool := decide (l.length = m.length) && (List.range l.length).all (fun i => match l[i]?, m[i]? with | some a, some b => sameBand a b | _, _ => false)
theorem sameBandS_len {l m : List DBand} (h : l.length ≠ m.length) : sameBandS l m = false := by unfold sameBandS; rw [decide_eq_false h]; rfl
theorem sameBandS_at {l m : List DBand} {k : Nat} (hl : k < l.length) (hm : k < m.length) (h : sameBand l[k] m[k] = false) : sameBandS l m = false := by
  unfold sameBandS
  rw [Bool.and_eq_false_iff]
  right
  rw [List.all_eq_false]
  exact ⟨k, by simpa using hl, by rw [List.getElem?_eq_getElem hl, List.getElem?_eq_getElem hm]; simp [h]⟩
theorem sameBandS_all {l m : List DBand} (e : l.length = m.length) (h : ∀ j (hl : j < l.length), sameBand l[j] (m[j]'(by omega)) = true) : sameBandS l m = true := by
  unfold sameBandS
  rw [decide_eq_true e, Bool.true_and, List.all_eq_true]
  intro j hj
  have hj' : j < l.length := by simpa using hj
  rw [List.getElem?_eq_getElem hj', List.getElem?_eq_getElem (show j < m.length by omega)]
  exact h j hj'
def sameLicence (a b : DLicence) : Bool := (eqS a.id b.id && (eqS a.holder b.holder && ((a.low == b.low) && ((a.high == b.high) && ((a.area.west == b.area.west) && ((a.area.south == b.area.south) && ((a.area.east == b.area.east) && ((a.area.north == b.area.north) && ((a.from_ == b.from_) && ((a.until_ == b.until_) && (a.power == b.power)))))))))))
def sameLicenceS (l m : List DLicence) : Bool := decide (l.length = m.length) && (List.range l.length).all (fun i => match l[i]?, m[i]? with | some a, some b => sameLicence a b | _, _ => false)
theorem sameLicenceS_len {l m : List DLicence} (h : l.length ≠ m.length) : sameLicenceS l m = false := by unfold sameLicenceS; rw [decide_eq_false h]; rfl
theorem sameLicenceS_at {l m : List DLicence} {k : Nat} (hl : k < l.length) (hm : k < m.length) (h : sameLicence l[k] m[k] = false) : sameLicenceS l m = false := by
  unfold sameLicenceS
  rw [Bool.and_eq_false_iff]
  right
  rw [List.all_eq_false]
  exact ⟨k, by simpa using hl, by rw [List.getElem?_eq_getElem hl, List.getElem?_eq_getElem hm]; simp [h]⟩
theorem sameLicenceS_all {l m : List DLicence} (e : l.length = m.length) (h : ∀ j (hl : j < l.length), sameLicence l[j] (m[j]'(by omega)) = true) : sameLicenceS l m = true := by
  unfold sameLicenceS
  rw [decide_eq_true e, Bool.true_and, List.all_eq_true]
  intro j hj
  have hj' : j < l.length := by simpa using hj
  rw [List.getElem?_eq_getElem hj', List.getElem?_eq_getElem (show j < m.length by omega)]
  exact h j hj'
def sameProtected (a b : DProtected) : Bool := (eqS a.name b.name && ((a.at_.place.x == b.at_.place.x) && ((a.at_.place.y == b.at_.place.y) && ((a.at_.above == b.at_.above) && ((a.low == b.low) && ((a.high == b.high) && (a.limit == b.limit)))))))
def sameProtectedS (l m : List DProtected) : Bool := decide (l.length = m.length) && (List.range l.length).all (fun i => match l[i]?, m[i]? with | some a, some b => sameProtected a b | _, _ => false)
theorem sameProtectedS_len {l m : List DProtected} (h : l.length ≠ m.length) : sameProtectedS l m = false := by unfold sameProtectedS; rw [decide_eq_false h]; rfl
theorem sameProtectedS_at {l m : List DProtected} {k : Nat} (hl : k < l.length) (hm : k < m.length) (h : sameProtected l[k] m[k] = false) : sameProtectedS l m = false := by
  unfold sameProtectedS
  rw [Bool.and_eq_false_iff]
  right
  rw [List.all_eq_false]
  exact ⟨k, by simpa using hl, by rw [List.getElem?_eq_getElem hl, List.getElem?_eq_getElem hm]; simp [h]⟩
theorem sameProtectedS_all {l m : List DProtected} (e : l.length = m.length) (h : ∀ j (hl : j < l.length), sameProtected l[j] (m[j]'(by omega)) = true) : sameProtectedS l m = true := by
  unfold sameProtectedS
  rw [decide_eq_true e, Bool.true_and, List.all_eq_true]
  intro j hj
  have hj' : j < l.length := by simpa using hj
  rw [List.getElem?_eq_getElem hj', List.getElem?_eq_getElem (show j < m.length by omega)]
  exact h j hj'
def sameRequest (a b : DRequest) : Bool := (eqS a.id b.id && (eqS a.applicant b.applicant && (eqS a.partner b.partner && ((a.low == b.low) && ((a.high == b.high) && ((a.filed == b.filed) && ((a.deadline == b.deadline) && (a.state == b.state))))))))
def sameRequestS (l m : List DRequest) : Bool := decide (l.length = m.length) && (List.range l.length).all (fun i => match l[i]?, m[i]? with | some a, some b => sameRequest a b | _, _ => false)
theorem sameRequestS_len {l m : List DRequest} (h : l.length ≠ m.length) : sameRequestS l m = false := by unfold sameRequestS; rw [decide_eq_false h]; rfl
theorem sameRequestS_at {l m : List DRequest} {k : Nat} (hl : k < l.length) (hm : k < m.length) (h : sameRequest l[k] m[k] = false) : sameRequestS l m = false := by
  unfold sameRequestS
  rw [Bool.and_eq_false_iff]
  right
  rw [List.all_eq_false]
  exact ⟨k, by simpa using hl, by rw [List.getElem?_eq_getElem hl, List.getElem?_eq_getElem hm]; simp [h]⟩
theorem sameRequestS_all {l m : List DRequest} (e : l.length = m.length) (h : ∀ j (hl : j < l.length), sameRequest l[j] (m[j]'(by omega)) = true) : sameRequestS l m = true := by
  unfold sameRequestS
  rw [decide_eq_true e, Bool.true_and, List.all_eq_true]
  intro j hj
  have hj' : j < l.length := by simpa using hj
  rw [List.getElem?_eq_getElem hj', List.getElem?_eq_getElem (show j < m.length by omega)]
  exact h j hj'
def sameI (l m : List Int) : Bool := decide (l.length = m.length) && (List.range l.length).all (fun i => match l[i]?, m[i]? with | some a, some b => (a == b) | _, _ => false)
def sameII (l m : List (List Int)) : Bool := decide (l.length = m.length) && (List.range l.length).all (fun i => match l[i]?, m[i]? with | some a, some b => sameI a b | _, _ => false)
theorem sameI_len {l m : List Int} (h : l.length ≠ m.length) : sameI l m = false := by unfold sameI; rw [decide_eq_false h]; rfl
theorem sameI_at {l m : List Int} {k : Nat} (hl : k < l.length) (hm : k < m.length) (h : (l[k] == m[k]) = false) : sameI l m = false := by
  unfold sameI
  rw [Bool.and_eq_false_iff]
  right
  rw [List.all_eq_false]
  exact ⟨k, by simpa using hl, by rw [List.getElem?_eq_getElem hl, List.getElem?_eq_getElem hm]; simp [h]⟩
theorem sameI_all {l m : List Int} (e : l.length = m.length) (h : ∀ j (hl : j < l.length), (l[j] == m[j]'(by omega)) = true) : sameI l m = true := by
  unfold sameI
  rw [decide_eq_true e, Bool.true_and, List.all_eq_true]
  intro j hj
  have hj' : j < l.length := by simpa using hj
  rw [List.getElem?_eq_getElem hj', List.getElem?_eq_getElem (show j < m.length by omega)]
  exact h j hj'
theorem sameII_len {l m : List (List Int)} (h : l.length ≠ m.length) : sameII l m = false := by unfold sameII; rw [decide_eq_false h]; rfl
theorem sameII_at {l m : List (List Int)} {k : Nat} (hl : k < l.length) (hm : k < m.length) (h : sameI l[k] m[k] = false) : sameII l m = false := by
  unfold sameII
  rw [Bool.and_eq_false_iff]
  right
  rw [List.all_eq_false]
  exact ⟨k, by simpa using hl, by rw [List.getElem?_eq_getElem hl, List.getElem?_eq_getElem hm]; simp [h]⟩
theorem sameII_all {l m : List (List Int)} (e : l.length = m.length) (h : ∀ j (hl : j < l.length), sameI l[j] (m[j]'(by omega)) = true) : sameII l m = true := by
  unfold sameII
  rw [decide_eq_true e, Bool.true_and, List.all_eq_true]
  intro j hj
  have hj' : j < l.length := by simpa using hj
  rw [List.getElem?_eq_getElem hj', List.getElem?_eq_getElem (show j < m.length by omega)]
  exact h j hj'
def sameAntenna (a b : DAntenna) : Bool := eqS a.name b.name && ((a.gain == b.gain) && (sameI a.horizontal b.horizontal && sameI a.vertical b.vertical))
def sameAntennaS (l m : List DAntenna) : Bool := decide (l.length = m.length) && (List.range l.length).all (fun i => match l[i]?, m[i]? with | some a, some b => sameAntenna a b | _, _ => false)
theorem sameAntennaS_len {l m : List DAntenna} (h : l.length ≠ m.length) : sameAntennaS l m = false := by unfold sameAntennaS; rw [decide_eq_false h]; rfl
theorem sameAntennaS_at {l m : List DAntenna} {k : Nat} (hl : k < l.length) (hm : k < m.length) (h : sameAntenna l[k] m[k] = false) : sameAntennaS l m = false := by
  unfold sameAntennaS
  rw [Bool.and_eq_false_iff]
  right
  rw [List.all_eq_false]
  exact ⟨k, by simpa using hl, by rw [List.getElem?_eq_getElem hl, List.getElem?_eq_getElem hm]; simp [h]⟩
theorem sameAntennaS_all {l m : List DAntenna} (e : l.length = m.length) (h : ∀ j (hl : j < l.length), sameAntenna l[j] (m[j]'(by omega)) = true) : sameAntennaS l m = true := by
  unfold sameAntennaS
  rw [decide_eq_true e, Bool.true_and, List.all_eq_true]
  intro j hj
  have hj' : j < l.length := by simpa using hj
  rw [List.getElem?_eq_getElem hj', List.getElem?_eq_getElem (show j < m.length by omega)]
  exact h j hj'
def sameRadio (a b : DRadio) : Bool := eqS a.name b.name && ((a.power == b.power) && ((a.feeder == b.feeder) && ((a.noise == b.noise) && ((a.width == b.width) && sameModeS a.modes b.modes))))
def sameRadioS (l m : List DRadio) : Bool := decide (l.length = m.length) && (List.range l.length).all (fun i => match l[i]?, m[i]? with | some a, some b => sameRadio a b | _, _ => false)
theorem sameRadioS_len {l m : List DRadio} (h : l.length ≠ m.length) : sameRadioS l m = false := by unfold sameRadioS; rw [decide_eq_false h]; rfl
theorem sameRadioS_at {l m : List DRadio} {k : Nat} (hl : k < l.length) (hm : k < m.length) (h : sameRadio l[k] m[k] = false) : sameRadioS l m = false := by
  unfold sameRadioS
  rw [Bool.and_eq_false_iff]
  right
  rw [List.all_eq_false]
  exact ⟨k, by simpa using hl, by rw [List.getElem?_eq_getElem hl, List.getElem?_eq_getElem hm]; simp [h]⟩
theorem sameRadioS_all {l m : List DRadio} (e : l.length = m.length) (h : ∀ j (hl : j < l.length), sameRadio l[j] (m[j]'(by omega)) = true) : sameRadioS l m = true := by
  unfold sameRadioS
  rw [decide_eq_true e, Bool.true_and, List.all_eq_true]
  intro j hj
  have hj' : j < l.length := by simpa using hj
  rw [List.getElem?_eq_getElem hj', List.getElem?_eq_getElem (show j < m.length by omega)]
  exact h j hj'
def sameTerrain (a b : DTerrain) : Bool := (a.step == b.step) && ((a.width == b.width) && ((a.height == b.height) && (sameI a.heights b.heights && sameI a.clutter b.clutter)))
def sameNetwork (a b : DNetwork) : Bool := sameSiteS a.sites b.sites && (sameSectorS a.sectors b.sectors && (sameAntennaS a.antennas b.antennas && sameRadioS a.radios b.radios))
def sameDesk (a b : DDesk) : Bool := sameTerrain a.plan.terrain b.plan.terrain && (sameNetwork a.plan.network b.plan.network && (sameBandS a.plan.bands b.plan.bands && (sameLicenceS a.plan.licences b.plan.licences && (sameProtectedS a.plan.protected_ b.plan.protected_ && (sameII a.plan.apart b.plan.apart && ((a.plan.day == b.plan.day) && sameRequestS a.requests b.requests))))))
end Go.Proofs.YtjfmkmcefnidcaaGreat
