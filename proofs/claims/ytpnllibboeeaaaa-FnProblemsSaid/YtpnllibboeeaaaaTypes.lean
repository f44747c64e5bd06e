/- The data types of the program as Lean structures, and the trees of cells that they are. -/
import Derived.Test.YtpnllibboeeaaaaMark
namespace Go.Proofs.Ytpnllibboeeaaaa
open Go.RowKit
set_option linter.unusedVariables false

def I64 (n : Int) : Prop := -9223372036854775808 ≤ n ∧ n ≤ 9223372036854775807
structure DPoint where
  x : Int
  y : Int
def DPoint.tr (x : DPoint) : List Tr := [intT x.x, intT x.y]
theorem DPoint.tr_len (x : DPoint) : x.tr.length = 2 := rfl
def DPoint.sT (l : List DPoint) : Tr := .sl 2 (l.flatMap DPoint.tr)
structure DPoint.ok (x_ : DPoint) : Prop where
  x : I64 x_.x
  y : I64 x_.y
theorem DPoint.rd {B : Nat} {w : World} {l : List DPoint} {v : Value} (h : Rd B w (DPoint.sT l) v) :
    ∃ a c, v = .slice a l.length c ∧ l.length ≤ c ∧ c ≤ maxLen ∧ (0 < l.length → ∃ b off, a = some ⟨b, off, none⟩ ∧ b < B ∧ ∀ (i : Nat) (hi : i < l.length),
      w.cell? ⟨b, off + i * 2, none⟩ = some (.int .i64 l[i].x) ∧ w.cell? ⟨b, off + i * 2 + 1, none⟩ = some (.int .i64 l[i].y)) := by
  obtain ⟨a, c, he, h1, h2, h3⟩ := Rd.slAt (k := 2) (g := DPoint.tr) (by decide) DPoint.tr_len h
  refine ⟨a, c, he, h1, h2, fun hn => ?_⟩
  obtain ⟨b, off, ha, hb, hat⟩ := h3 hn
  refine ⟨b, off, ha, hb, fun i hi => ?_⟩
  obtain ⟨u0, c0, r0⟩ := hat i hi 0 _ rfl
  rw [Rd.lit.1 r0] at c0
  obtain ⟨u1, c1, r1⟩ := hat i hi 1 _ rfl
  rw [Rd.lit.1 r1] at c1
  exact ⟨c0, c1⟩
structure DMode where
  need : Int
  rate : Int
def DMode.tr (x : DMode) : List Tr := [intT x.need, intT x.rate]
theorem DMode.tr_len (x : DMode) : x.tr.length = 2 := rfl
def DMode.sT (l : List DMode) : Tr := .sl 2 (l.flatMap DMode.tr)
structure DMode.ok (x_ : DMode) : Prop where
  need : I64 x_.need
  rate : I64 x_.rate
theorem DMode.rd {B : Nat} {w : World} {l : List DMode} {v : Value} (h : Rd B w (DMode.sT l) v) :
    ∃ a c, v = .slice a l.length c ∧ l.length ≤ c ∧ c ≤ maxLen ∧ (0 < l.length → ∃ b off, a = some ⟨b, off, none⟩ ∧ b < B ∧ ∀ (i : Nat) (hi : i < l.length),
      w.cell? ⟨b, off + i * 2, none⟩ = some (.int .i64 l[i].need) ∧ w.cell? ⟨b, off + i * 2 + 1, none⟩ = some (.int .i64 l[i].rate)) := by
  obtain ⟨a, c, he, h1, h2, h3⟩ := Rd.slAt (k := 2) (g := DMode.tr) (by decide) DMode.tr_len h
  refine ⟨a, c, he, h1, h2, fun hn => ?_⟩
  obtain ⟨b, off, ha, hb, hat⟩ := h3 hn
  refine ⟨b, off, ha, hb, fun i hi => ?_⟩
  obtain ⟨u0, c0, r0⟩ := hat i hi 0 _ rfl
  rw [Rd.lit.1 r0] at c0
  obtain ⟨u1, c1, r1⟩ := hat i hi 1 _ rfl
  rw [Rd.lit.1 r1] at c1
  exact ⟨c0, c1⟩
structure DArea where
  west : Int
  south : Int
  east : Int
  north : Int
def DArea.tr (x : DArea) : List Tr := [intT x.west, intT x.south, intT x.east, intT x.north]
theorem DArea.tr_len (x : DArea) : x.tr.length = 4 := rfl
def DArea.sT (l : List DArea) : Tr := .sl 4 (l.flatMap DArea.tr)
structure DArea.ok (x_ : DArea) : Prop where
  west : I64 x_.west
  south : I64 x_.south
  east : I64 x_.east
  north : I64 x_.north
theorem DArea.rd {B : Nat} {w : World} {l : List DArea} {v : Value} (h : Rd B w (DArea.sT l) v) :
    ∃ a c, v = .slice a l.length c ∧ l.length ≤ c ∧ c ≤ maxLen ∧ (0 < l.length → ∃ b off, a = some ⟨b, off, none⟩ ∧ b < B ∧ ∀ (i : Nat) (hi : i < l.length),
      w.cell? ⟨b, off + i * 4, none⟩ = some (.int .i64 l[i].west) ∧ w.cell? ⟨b, off + i * 4 + 1, none⟩ = some (.int .i64 l[i].south) ∧ w.cell? ⟨b, off + i * 4 + 2, none⟩ = some (.int .i64 l[i].east) ∧ w.cell? ⟨b, off + i * 4 + 3, none⟩ = some (.int .i64 l[i].north)) := by
  obtain ⟨a, c, he, h1, h2, h3⟩ := Rd.slAt (k := 4) (g := DArea.tr) (by decide) DArea.tr_len h
  refine ⟨a, c, he, h1, h2, fun hn => ?_⟩
  obtain ⟨b, off, ha, hb, hat⟩ := h3 hn
  refine ⟨b, off, ha, hb, fun i hi => ?_⟩
  obtain ⟨u0, c0, r0⟩ := hat i hi 0 _ rfl
  rw [Rd.lit.1 r0] at c0
  obtain ⟨u1, c1, r1⟩ := hat i hi 1 _ rfl
  rw [Rd.lit.1 r1] at c1
  obtain ⟨u2, c2, r2⟩ := hat i hi 2 _ rfl
  rw [Rd.lit.1 r2] at c2
  obtain ⟨u3, c3, r3⟩ := hat i hi 3 _ rfl
  rw [Rd.lit.1 r3] at c3
  exact ⟨c0, c1, c2, c3⟩
structure DEnd where
  place : DPoint
  above : Int
def DEnd.tr (x : DEnd) : List Tr := [intT x.place.x, intT x.place.y, intT x.above]
theorem DEnd.tr_len (x : DEnd) : x.tr.length = 3 := rfl
def DEnd.sT (l : List DEnd) : Tr := .sl 3 (l.flatMap DEnd.tr)
structure DEnd.ok (x_ : DEnd) : Prop where
  place : x_.place.ok
  above : I64 x_.above
theorem DEnd.rd {B : Nat} {w : World} {l : List DEnd} {v : Value} (h : Rd B w (DEnd.sT l) v) :
    ∃ a c, v = .slice a l.length c ∧ l.length ≤ c ∧ c ≤ maxLen ∧ (0 < l.length → ∃ b off, a = some ⟨b, off, none⟩ ∧ b < B ∧ ∀ (i : Nat) (hi : i < l.length),
      w.cell? ⟨b, off + i * 3, none⟩ = some (.int .i64 l[i].place.x) ∧ w.cell? ⟨b, off + i * 3 + 1, none⟩ = some (.int .i64 l[i].place.y) ∧ w.cell? ⟨b, off + i * 3 + 2, none⟩ = some (.int .i64 l[i].above)) := by
  obtain ⟨a, c, he, h1, h2, h3⟩ := Rd.slAt (k := 3) (g := DEnd.tr) (by decide) DEnd.tr_len h
  refine ⟨a, c, he, h1, h2, fun hn => ?_⟩
  obtain ⟨b, off, ha, hb, hat⟩ := h3 hn
  refine ⟨b, off, ha, hb, fun i hi => ?_⟩
  obtain ⟨u0, c0, r0⟩ := hat i hi 0 _ rfl
  rw [Rd.lit.1 r0] at c0
  obtain ⟨u1, c1, r1⟩ := hat i hi 1 _ rfl
  rw [Rd.lit.1 r1] at c1
  obtain ⟨u2, c2, r2⟩ := hat i hi 2 _ rfl
  rw [Rd.lit.1 r2] at c2
  exact ⟨c0, c1, c2⟩
structure DSite where
  name : ByteArray
  holder : ByteArray
  place : DPoint
def DSite.tr (x : DSite) : List Tr := [strT x.name, strT x.holder, intT x.place.x, intT x.place.y]
theorem DSite.tr_len (x : DSite) : x.tr.length = 4 := rfl
def DSite.sT (l : List DSite) : Tr := .sl 4 (l.flatMap DSite.tr)
structure DSite.ok (x_ : DSite) : Prop where
  name : x_.name.size ≤ maxLen
  holder : x_.holder.size ≤ maxLen
  place : x_.place.ok
theorem DSite.rd {B : Nat} {w : World} {l : List DSite} {v : Value} (h : Rd B w (DSite.sT l) v) :
    ∃ a c, v = .slice a l.length c ∧ l.length ≤ c ∧ c ≤ maxLen ∧ (0 < l.length → ∃ b off, a = some ⟨b, off, none⟩ ∧ b < B ∧ ∀ (i : Nat) (hi : i < l.length),
      w.cell? ⟨b, off + i * 4, none⟩ = some (.string l[i].name) ∧ w.cell? ⟨b, off + i * 4 + 1, none⟩ = some (.string l[i].holder) ∧ w.cell? ⟨b, off + i * 4 + 2, none⟩ = some (.int .i64 l[i].place.x) ∧ w.cell? ⟨b, off + i * 4 + 3, none⟩ = some (.int .i64 l[i].place.y)) := by
  obtain ⟨a, c, he, h1, h2, h3⟩ := Rd.slAt (k := 4) (g := DSite.tr) (by decide) DSite.tr_len h
  refine ⟨a, c, he, h1, h2, fun hn => ?_⟩
  obtain ⟨b, off, ha, hb, hat⟩ := h3 hn
  refine ⟨b, off, ha, hb, fun i hi => ?_⟩
  obtain ⟨u0, c0, r0⟩ := hat i hi 0 _ rfl
  rw [Rd.lit.1 r0] at c0
  obtain ⟨u1, c1, r1⟩ := hat i hi 1 _ rfl
  rw [Rd.lit.1 r1] at c1
  obtain ⟨u2, c2, r2⟩ := hat i hi 2 _ rfl
  rw [Rd.lit.1 r2] at c2
  obtain ⟨u3, c3, r3⟩ := hat i hi 3 _ rfl
  rw [Rd.lit.1 r3] at c3
  exact ⟨c0, c1, c2, c3⟩
structure DSector where
  name : ByteArray
  site : ByteArray
  antenna : ByteArray
  radio : ByteArray
  band : ByteArray
  azimuth : Int
  tilt : Int
  above : Int
  channel : Int
def DSector.tr (x : DSector) : List Tr := [strT x.name, strT x.site, strT x.antenna, strT x.radio, strT x.band, intT x.azimuth, intT x.tilt, intT x.above, intT x.channel]
theorem DSector.tr_len (x : DSector) : x.tr.length = 9 := rfl
def DSector.sT (l : List DSector) : Tr := .sl 9 (l.flatMap DSector.tr)
structure DSector.ok (x_ : DSector) : Prop where
  name : x_.name.size ≤ maxLen
  site : x_.site.size ≤ maxLen
  antenna : x_.antenna.size ≤ maxLen
  radio : x_.radio.size ≤ maxLen
  band : x_.band.size ≤ maxLen
  azimuth : I64 x_.azimuth
  tilt : I64 x_.tilt
  above : I64 x_.above
  channel : I64 x_.channel
theorem DSector.rd {B : Nat} {w : World} {l : List DSector} {v : Value} (h : Rd B w (DSector.sT l) v) :
    ∃ a c, v = .slice a l.length c ∧ l.length ≤ c ∧ c ≤ maxLen ∧ (0 < l.length → ∃ b off, a = some ⟨b, off, none⟩ ∧ b < B ∧ ∀ (i : Nat) (hi : i < l.length),
      w.cell? ⟨b, off + i * 9, none⟩ = some (.string l[i].name) ∧ w.cell? ⟨b, off + i * 9 + 1, none⟩ = some (.string l[i].site) ∧ w.cell? ⟨b, off + i * 9 + 2, none⟩ = some (.string l[i].antenna) ∧ w.cell? ⟨b, off + i * 9 + 3, none⟩ = some (.string l[i].radio) ∧ w.cell? ⟨b, off + i * 9 + 4, none⟩ = some (.string l[i].band) ∧ w.cell? ⟨b, off + i * 9 + 5, none⟩ = some (.int .i64 l[i].azimuth) ∧ w.cell? ⟨b, off + i * 9 + 6, none⟩ = some (.int .i64 l[i].tilt) ∧ w.cell? ⟨b, off + i * 9 + 7, none⟩ = some (.int .i64 l[i].above) ∧ w.cell? ⟨b, off + i * 9 + 8, none⟩ = some (.int .i64 l[i].channel)) := by
  obtain ⟨a, c, he, h1, h2, h3⟩ := Rd.slAt (k := 9) (g := DSector.tr) (by decide) DSector.tr_len h
  refine ⟨a, c, he, h1, h2, fun hn => ?_⟩
  obtain ⟨b, off, ha, hb, hat⟩ := h3 hn
  refine ⟨b, off, ha, hb, fun i hi => ?_⟩
  obtain ⟨u0, c0, r0⟩ := hat i hi 0 _ rfl
  rw [Rd.lit.1 r0] at c0
  obtain ⟨u1, c1, r1⟩ := hat i hi 1 _ rfl
  rw [Rd.lit.1 r1] at c1
  obtain ⟨u2, c2, r2⟩ := hat i hi 2 _ rfl
  rw [Rd.lit.1 r2] at c2
  obtain ⟨u3, c3, r3⟩ := hat i hi 3 _ rfl
  rw [Rd.lit.1 r3] at c3
  obtain ⟨u4, c4, r4⟩ := hat i hi 4 _ rfl
  rw [Rd.lit.1 r4] at c4
  obtain ⟨u5, c5, r5⟩ := hat i hi 5 _ rfl
  rw [Rd.lit.1 r5] at c5
  obtain ⟨u6, c6, r6⟩ := hat i hi 6 _ rfl
  rw [Rd.lit.1 r6] at c6
  obtain ⟨u7, c7, r7⟩ := hat i hi 7 _ rfl
  rw [Rd.lit.1 r7] at c7
  obtain ⟨u8, c8, r8⟩ := hat i hi 8 _ rfl
  rw [Rd.lit.1 r8] at c8
  exact ⟨c0, c1, c2, c3, c4, c5, c6, c7, c8⟩
structure DAntenna where
  name : ByteArray
  gain : Int
  horizontal : List Int
  vertical : List Int
def DAntenna.tr (x : DAntenna) : List Tr := [strT x.name, intT x.gain, intsT x.horizontal, intsT x.vertical]
theorem DAntenna.tr_len (x : DAntenna) : x.tr.length = 4 := rfl
def DAntenna.sT (l : List DAntenna) : Tr := .sl 4 (l.flatMap DAntenna.tr)
structure DAntenna.ok (x_ : DAntenna) : Prop where
  name : x_.name.size ≤ maxLen
  gain : I64 x_.gain
  horizontal : (∀ n ∈ x_.horizontal, I64 n)
  vertical : (∀ n ∈ x_.vertical, I64 n)
theorem DAntenna.rd {B : Nat} {w : World} {l : List DAntenna} {v : Value} (h : Rd B w (DAntenna.sT l) v) :
    ∃ a c, v = .slice a l.length c ∧ l.length ≤ c ∧ c ≤ maxLen ∧ (0 < l.length → ∃ b off, a = some ⟨b, off, none⟩ ∧ b < B ∧ ∀ (i : Nat) (hi : i < l.length),
      w.cell? ⟨b, off + i * 4, none⟩ = some (.string l[i].name) ∧ w.cell? ⟨b, off + i * 4 + 1, none⟩ = some (.int .i64 l[i].gain) ∧ (∃ u, w.cell? ⟨b, off + i * 4 + 2, none⟩ = some u ∧ Rd B w (intsT l[i].horizontal) u) ∧ (∃ u, w.cell? ⟨b, off + i * 4 + 3, none⟩ = some u ∧ Rd B w (intsT l[i].vertical) u)) := by
  obtain ⟨a, c, he, h1, h2, h3⟩ := Rd.slAt (k := 4) (g := DAntenna.tr) (by decide) DAntenna.tr_len h
  refine ⟨a, c, he, h1, h2, fun hn => ?_⟩
  obtain ⟨b, off, ha, hb, hat⟩ := h3 hn
  refine ⟨b, off, ha, hb, fun i hi => ?_⟩
  obtain ⟨u0, c0, r0⟩ := hat i hi 0 _ rfl
  rw [Rd.lit.1 r0] at c0
  obtain ⟨u1, c1, r1⟩ := hat i hi 1 _ rfl
  rw [Rd.lit.1 r1] at c1
  obtain ⟨u2, c2, r2⟩ := hat i hi 2 _ rfl
  obtain ⟨u3, c3, r3⟩ := hat i hi 3 _ rfl
  exact ⟨c0, c1, ⟨u2, c2, r2⟩, ⟨u3, c3, r3⟩⟩
structure DRadio where
  name : ByteArray
  power : Int
  feeder : Int
  noise : Int
  width : Int
  modes : List DMode
def DRadio.tr (x : DRadio) : List Tr := [strT x.name, intT x.power, intT x.feeder, intT x.noise, intT x.width, DMode.sT x.modes]
theorem DRadio.tr_len (x : DRadio) : x.tr.length = 6 := rfl
def DRadio.sT (l : List DRadio) : Tr := .sl 6 (l.flatMap DRadio.tr)
structure DRadio.ok (x_ : DRadio) : Prop where
  name : x_.name.size ≤ maxLen
  power : I64 x_.power
  feeder : I64 x_.feeder
  noise : I64 x_.noise
  width : I64 x_.width
  modes : (∀ y ∈ x_.modes, y.ok)
theorem DRadio.rd {B : Nat} {w : World} {l : List DRadio} {v : Value} (h : Rd B w (DRadio.sT l) v) :
    ∃ a c, v = .slice a l.length c ∧ l.length ≤ c ∧ c ≤ maxLen ∧ (0 < l.length → ∃ b off, a = some ⟨b, off, none⟩ ∧ b < B ∧ ∀ (i : Nat) (hi : i < l.length),
      w.cell? ⟨b, off + i * 6, none⟩ = some (.string l[i].name) ∧ w.cell? ⟨b, off + i * 6 + 1, none⟩ = some (.int .i64 l[i].power) ∧ w.cell? ⟨b, off + i * 6 + 2, none⟩ = some (.int .i64 l[i].feeder) ∧ w.cell? ⟨b, off + i * 6 + 3, none⟩ = some (.int .i64 l[i].noise) ∧ w.cell? ⟨b, off + i * 6 + 4, none⟩ = some (.int .i64 l[i].width) ∧ (∃ u, w.cell? ⟨b, off + i * 6 + 5, none⟩ = some u ∧ Rd B w (DMode.sT l[i].modes) u)) := by
  obtain ⟨a, c, he, h1, h2, h3⟩ := Rd.slAt (k := 6) (g := DRadio.tr) (by decide) DRadio.tr_len h
  refine ⟨a, c, he, h1, h2, fun hn => ?_⟩
  obtain ⟨b, off, ha, hb, hat⟩ := h3 hn
  refine ⟨b, off, ha, hb, fun i hi => ?_⟩
  obtain ⟨u0, c0, r0⟩ := hat i hi 0 _ rfl
  rw [Rd.lit.1 r0] at c0
  obtain ⟨u1, c1, r1⟩ := hat i hi 1 _ rfl
  rw [Rd.lit.1 r1] at c1
  obtain ⟨u2, c2, r2⟩ := hat i hi 2 _ rfl
  rw [Rd.lit.1 r2] at c2
  obtain ⟨u3, c3, r3⟩ := hat i hi 3 _ rfl
  rw [Rd.lit.1 r3] at c3
  obtain ⟨u4, c4, r4⟩ := hat i hi 4 _ rfl
  rw [Rd.lit.1 r4] at c4
  obtain ⟨u5, c5, r5⟩ := hat i hi 5 _ rfl
  exact ⟨c0, c1, c2, c3, c4, ⟨u5, c5, r5⟩⟩
structure DNetwork where
  sites : List DSite
  sectors : List DSector
  antennas : List DAntenna
  radios : List DRadio
def DNetwork.tr (x : DNetwork) : List Tr := [DSite.sT x.sites, DSector.sT x.sectors, DAntenna.sT x.antennas, DRadio.sT x.radios]
theorem DNetwork.tr_len (x : DNetwork) : x.tr.length = 4 := rfl
def DNetwork.sT (l : List DNetwork) : Tr := .sl 4 (l.flatMap DNetwork.tr)
structure DNetwork.ok (x_ : DNetwork) : Prop where
  sites : (∀ y ∈ x_.sites, y.ok)
  sectors : (∀ y ∈ x_.sectors, y.ok)
  antennas : (∀ y ∈ x_.antennas, y.ok)
  radios : (∀ y ∈ x_.radios, y.ok)
theorem DNetwork.rd {B : Nat} {w : World} {l : List DNetwork} {v : Value} (h : Rd B w (DNetwork.sT l) v) :
    ∃ a c, v = .slice a l.length c ∧ l.length ≤ c ∧ c ≤ maxLen ∧ (0 < l.length → ∃ b off, a = some ⟨b, off, none⟩ ∧ b < B ∧ ∀ (i : Nat) (hi : i < l.length),
      (∃ u, w.cell? ⟨b, off + i * 4, none⟩ = some u ∧ Rd B w (DSite.sT l[i].sites) u) ∧ (∃ u, w.cell? ⟨b, off + i * 4 + 1, none⟩ = some u ∧ Rd B w (DSector.sT l[i].sectors) u) ∧ (∃ u, w.cell? ⟨b, off + i * 4 + 2, none⟩ = some u ∧ Rd B w (DAntenna.sT l[i].antennas) u) ∧ (∃ u, w.cell? ⟨b, off + i * 4 + 3, none⟩ = some u ∧ Rd B w (DRadio.sT l[i].radios) u)) := by
  obtain ⟨a, c, he, h1, h2, h3⟩ := Rd.slAt (k := 4) (g := DNetwork.tr) (by decide) DNetwork.tr_len h
  refine ⟨a, c, he, h1, h2, fun hn => ?_⟩
  obtain ⟨b, off, ha, hb, hat⟩ := h3 hn
  refine ⟨b, off, ha, hb, fun i hi => ?_⟩
  obtain ⟨u0, c0, r0⟩ := hat i hi 0 _ rfl
  obtain ⟨u1, c1, r1⟩ := hat i hi 1 _ rfl
  obtain ⟨u2, c2, r2⟩ := hat i hi 2 _ rfl
  obtain ⟨u3, c3, r3⟩ := hat i hi 3 _ rfl
  exact ⟨⟨u0, c0, r0⟩, ⟨u1, c1, r1⟩, ⟨u2, c2, r2⟩, ⟨u3, c3, r3⟩⟩
structure DBand where
  name : ByteArray
  low : Int
  high : Int
  raster : Int
  duplex : Int
def DBand.tr (x : DBand) : List Tr := [strT x.name, intT x.low, intT x.high, intT x.raster, intT x.duplex]
theorem DBand.tr_len (x : DBand) : x.tr.length = 5 := rfl
def DBand.sT (l : List DBand) : Tr := .sl 5 (l.flatMap DBand.tr)
structure DBand.ok (x_ : DBand) : Prop where
  name : x_.name.size ≤ maxLen
  low : I64 x_.low
  high : I64 x_.high
  raster : I64 x_.raster
  duplex : I64 x_.duplex
theorem DBand.rd {B : Nat} {w : World} {l : List DBand} {v : Value} (h : Rd B w (DBand.sT l) v) :
    ∃ a c, v = .slice a l.length c ∧ l.length ≤ c ∧ c ≤ maxLen ∧ (0 < l.length → ∃ b off, a = some ⟨b, off, none⟩ ∧ b < B ∧ ∀ (i : Nat) (hi : i < l.length),
      w.cell? ⟨b, off + i * 5, none⟩ = some (.string l[i].name) ∧ w.cell? ⟨b, off + i * 5 + 1, none⟩ = some (.int .i64 l[i].low) ∧ w.cell? ⟨b, off + i * 5 + 2, none⟩ = some (.int .i64 l[i].high) ∧ w.cell? ⟨b, off + i * 5 + 3, none⟩ = some (.int .i64 l[i].raster) ∧ w.cell? ⟨b, off + i * 5 + 4, none⟩ = some (.int .i64 l[i].duplex)) := by
  obtain ⟨a, c, he, h1, h2, h3⟩ := Rd.slAt (k := 5) (g := DBand.tr) (by decide) DBand.tr_len h
  refine ⟨a, c, he, h1, h2, fun hn => ?_⟩
  obtain ⟨b, off, ha, hb, hat⟩ := h3 hn
  refine ⟨b, off, ha, hb, fun i hi => ?_⟩
  obtain ⟨u0, c0, r0⟩ := hat i hi 0 _ rfl
  rw [Rd.lit.1 r0] at c0
  obtain ⟨u1, c1, r1⟩ := hat i hi 1 _ rfl
  rw [Rd.lit.1 r1] at c1
  obtain ⟨u2, c2, r2⟩ := hat i hi 2 _ rfl
  rw [Rd.lit.1 r2] at c2
  obtain ⟨u3, c3, r3⟩ := hat i hi 3 _ rfl
  rw [Rd.lit.1 r3] at c3
  obtain ⟨u4, c4, r4⟩ := hat i hi 4 _ rfl
  rw [Rd.lit.1 r4] at c4
  exact ⟨c0, c1, c2, c3, c4⟩
structure DProblem where
  domains : List (List Int)
  apart : List (List Int)
def DProblem.tr (x : DProblem) : List Tr := [intssT x.domains, intssT x.apart]
theorem DProblem.tr_len (x : DProblem) : x.tr.length = 2 := rfl
def DProblem.sT (l : List DProblem) : Tr := .sl 2 (l.flatMap DProblem.tr)
structure DProblem.ok (x_ : DProblem) : Prop where
  domains : (∀ r ∈ x_.domains, ∀ n ∈ r, I64 n)
  apart : (∀ r ∈ x_.apart, ∀ n ∈ r, I64 n)
theorem DProblem.rd {B : Nat} {w : World} {l : List DProblem} {v : Value} (h : Rd B w (DProblem.sT l) v) :
    ∃ a c, v = .slice a l.length c ∧ l.length ≤ c ∧ c ≤ maxLen ∧ (0 < l.length → ∃ b off, a = some ⟨b, off, none⟩ ∧ b < B ∧ ∀ (i : Nat) (hi : i < l.length),
      (∃ u, w.cell? ⟨b, off + i * 2, none⟩ = some u ∧ Rd B w (intssT l[i].domains) u) ∧ (∃ u, w.cell? ⟨b, off + i * 2 + 1, none⟩ = some u ∧ Rd B w (intssT l[i].apart) u)) := by
  obtain ⟨a, c, he, h1, h2, h3⟩ := Rd.slAt (k := 2) (g := DProblem.tr) (by decide) DProblem.tr_len h
  refine ⟨a, c, he, h1, h2, fun hn => ?_⟩
  obtain ⟨b, off, ha, hb, hat⟩ := h3 hn
  refine ⟨b, off, ha, hb, fun i hi => ?_⟩
  obtain ⟨u0, c0, r0⟩ := hat i hi 0 _ rfl
  obtain ⟨u1, c1, r1⟩ := hat i hi 1 _ rfl
  exact ⟨⟨u0, c0, r0⟩, ⟨u1, c1, r1⟩⟩
structure DLicence where
  id : ByteArray
  holder : ByteArray
  low : Int
  high : Int
  area : DArea
  from_ : Int
  until_ : Int
  power : Int
def DLicence.tr (x : DLicence) : List Tr := [strT x.id, strT x.holder, intT x.low, intT x.high, intT x.area.west, intT x.area.south, intT x.area.east, intT x.area.north, intT x.from_, intT x.until_, intT x.power]
theorem DLicence.tr_len (x : DLicence) : x.tr.length = 11 := rfl
def DLicence.sT (l : List DLicence) : Tr := .sl 11 (l.flatMap DLicence.tr)
structure DLicence.ok (x_ : DLicence) : Prop where
  id : x_.id.size ≤ maxLen
  holder : x_.holder.size ≤ maxLen
  low : I64 x_.low
  high : I64 x_.high
  area : x_.area.ok
  from_ : I64 x_.from_
  until_ : I64 x_.until_
  power : I64 x_.power
theorem DLicence.rd {B : Nat} {w : World} {l : List DLicence} {v : Value} (h : Rd B w (DLicence.sT l) v) :
    ∃ a c, v = .slice a l.length c ∧ l.length ≤ c ∧ c ≤ maxLen ∧ (0 < l.length → ∃ b off, a = some ⟨b, off, none⟩ ∧ b < B ∧ ∀ (i : Nat) (hi : i < l.length),
      w.cell? ⟨b, off + i * 11, none⟩ = some (.string l[i].id) ∧ w.cell? ⟨b, off + i * 11 + 1, none⟩ = some (.string l[i].holder) ∧ w.cell? ⟨b, off + i * 11 + 2, none⟩ = some (.int .i64 l[i].low) ∧ w.cell? ⟨b, off + i * 11 + 3, none⟩ = some (.int .i64 l[i].high) ∧ w.cell? ⟨b, off + i * 11 + 4, none⟩ = some (.int .i64 l[i].area.west) ∧ w.cell? ⟨b, off + i * 11 + 5, none⟩ = some (.int .i64 l[i].area.south) ∧ w.cell? ⟨b, off + i * 11 + 6, none⟩ = some (.int .i64 l[i].area.east) ∧ w.cell? ⟨b, off + i * 11 + 7, none⟩ = some (.int .i64 l[i].area.north) ∧ w.cell? ⟨b, off + i * 11 + 8, none⟩ = some (.int .i64 l[i].from_) ∧ w.cell? ⟨b, off + i * 11 + 9, none⟩ = some (.int .i64 l[i].until_) ∧ w.cell? ⟨b, off + i * 11 + 10, none⟩ = some (.int .i64 l[i].power)) := by
  obtain ⟨a, c, he, h1, h2, h3⟩ := Rd.slAt (k := 11) (g := DLicence.tr) (by decide) DLicence.tr_len h
  refine ⟨a, c, he, h1, h2, fun hn => ?_⟩
  obtain ⟨b, off, ha, hb, hat⟩ := h3 hn
  refine ⟨b, off, ha, hb, fun i hi => ?_⟩
  obtain ⟨u0, c0, r0⟩ := hat i hi 0 _ rfl
  rw [Rd.lit.1 r0] at c0
  obtain ⟨u1, c1, r1⟩ := hat i hi 1 _ rfl
  rw [Rd.lit.1 r1] at c1
  obtain ⟨u2, c2, r2⟩ := hat i hi 2 _ rfl
  rw [Rd.lit.1 r2] at c2
  obtain ⟨u3, c3, r3⟩ := hat i hi 3 _ rfl
  rw [Rd.lit.1 r3] at c3
  obtain ⟨u4, c4, r4⟩ := hat i hi 4 _ rfl
  rw [Rd.lit.1 r4] at c4
  obtain ⟨u5, c5, r5⟩ := hat i hi 5 _ rfl
  rw [Rd.lit.1 r5] at c5
  obtain ⟨u6, c6, r6⟩ := hat i hi 6 _ rfl
  rw [Rd.lit.1 r6] at c6
  obtain ⟨u7, c7, r7⟩ := hat i hi 7 _ rfl
  rw [Rd.lit.1 r7] at c7
  obtain ⟨u8, c8, r8⟩ := hat i hi 8 _ rfl
  rw [Rd.lit.1 r8] at c8
  obtain ⟨u9, c9, r9⟩ := hat i hi 9 _ rfl
  rw [Rd.lit.1 r9] at c9
  obtain ⟨u10, c10, r10⟩ := hat i hi 10 _ rfl
  rw [Rd.lit.1 r10] at c10
  exact ⟨c0, c1, c2, c3, c4, c5, c6, c7, c8, c9, c10⟩
structure DRequest where
  id : ByteArray
  applicant : ByteArray
  partner : ByteArray
  low : Int
  high : Int
  filed : Int
  deadline : Int
  state : Int
def DRequest.tr (x : DRequest) : List Tr := [strT x.id, strT x.applicant, strT x.partner, intT x.low, intT x.high, intT x.filed, intT x.deadline, intT x.state]
theorem DRequest.tr_len (x : DRequest) : x.tr.length = 8 := rfl
def DRequest.sT (l : List DRequest) : Tr := .sl 8 (l.flatMap DRequest.tr)
structure DRequest.ok (x_ : DRequest) : Prop where
  id : x_.id.size ≤ maxLen
  applicant : x_.applicant.size ≤ maxLen
  partner : x_.partner.size ≤ maxLen
  low : I64 x_.low
  high : I64 x_.high
  filed : I64 x_.filed
  deadline : I64 x_.deadline
  state : I64 x_.state
theorem DRequest.rd {B : Nat} {w : World} {l : List DRequest} {v : Value} (h : Rd B w (DRequest.sT l) v) :
    ∃ a c, v = .slice a l.length c ∧ l.length ≤ c ∧ c ≤ maxLen ∧ (0 < l.length → ∃ b off, a = some ⟨b, off, none⟩ ∧ b < B ∧ ∀ (i : Nat) (hi : i < l.length),
      w.cell? ⟨b, off + i * 8, none⟩ = some (.string l[i].id) ∧ w.cell? ⟨b, off + i * 8 + 1, none⟩ = some (.string l[i].applicant) ∧ w.cell? ⟨b, off + i * 8 + 2, none⟩ = some (.string l[i].partner) ∧ w.cell? ⟨b, off + i * 8 + 3, none⟩ = some (.int .i64 l[i].low) ∧ w.cell? ⟨b, off + i * 8 + 4, none⟩ = some (.int .i64 l[i].high) ∧ w.cell? ⟨b, off + i * 8 + 5, none⟩ = some (.int .i64 l[i].filed) ∧ w.cell? ⟨b, off + i * 8 + 6, none⟩ = some (.int .i64 l[i].deadline) ∧ w.cell? ⟨b, off + i * 8 + 7, none⟩ = some (.int .i64 l[i].state)) := by
  obtain ⟨a, c, he, h1, h2, h3⟩ := Rd.slAt (k := 8) (g := DRequest.tr) (by decide) DRequest.tr_len h
  refine ⟨a, c, he, h1, h2, fun hn => ?_⟩
  obtain ⟨b, off, ha, hb, hat⟩ := h3 hn
  refine ⟨b, off, ha, hb, fun i hi => ?_⟩
  obtain ⟨u0, c0, r0⟩ := hat i hi 0 _ rfl
  rw [Rd.lit.1 r0] at c0
  obtain ⟨u1, c1, r1⟩ := hat i hi 1 _ rfl
  rw [Rd.lit.1 r1] at c1
  obtain ⟨u2, c2, r2⟩ := hat i hi 2 _ rfl
  rw [Rd.lit.1 r2] at c2
  obtain ⟨u3, c3, r3⟩ := hat i hi 3 _ rfl
  rw [Rd.lit.1 r3] at c3
  obtain ⟨u4, c4, r4⟩ := hat i hi 4 _ rfl
  rw [Rd.lit.1 r4] at c4
  obtain ⟨u5, c5, r5⟩ := hat i hi 5 _ rfl
  rw [Rd.lit.1 r5] at c5
  obtain ⟨u6, c6, r6⟩ := hat i hi 6 _ rfl
  rw [Rd.lit.1 r6] at c6
  obtain ⟨u7, c7, r7⟩ := hat i hi 7 _ rfl
  rw [Rd.lit.1 r7] at c7
  exact ⟨c0, c1, c2, c3, c4, c5, c6, c7⟩
structure DProtected where
  name : ByteArray
  at_ : DEnd
  low : Int
  high : Int
  limit : Int
def DProtected.tr (x : DProtected) : List Tr := [strT x.name, intT x.at_.place.x, intT x.at_.place.y, intT x.at_.above, intT x.low, intT x.high, intT x.limit]
theorem DProtected.tr_len (x : DProtected) : x.tr.length = 7 := rfl
def DProtected.sT (l : List DProtected) : Tr := .sl 7 (l.flatMap DProtected.tr)
structure DProtected.ok (x_ : DProtected) : Prop where
  name : x_.name.size ≤ maxLen
  at_ : x_.at_.ok
  low : I64 x_.low
  high : I64 x_.high
  limit : I64 x_.limit
theorem DProtected.rd {B : Nat} {w : World} {l : List DProtected} {v : Value} (h : Rd B w (DProtected.sT l) v) :
    ∃ a c, v = .slice a l.length c ∧ l.length ≤ c ∧ c ≤ maxLen ∧ (0 < l.length → ∃ b off, a = some ⟨b, off, none⟩ ∧ b < B ∧ ∀ (i : Nat) (hi : i < l.length),
      w.cell? ⟨b, off + i * 7, none⟩ = some (.string l[i].name) ∧ w.cell? ⟨b, off + i * 7 + 1, none⟩ = some (.int .i64 l[i].at_.place.x) ∧ w.cell? ⟨b, off + i * 7 + 2, none⟩ = some (.int .i64 l[i].at_.place.y) ∧ w.cell? ⟨b, off + i * 7 + 3, none⟩ = some (.int .i64 l[i].at_.above) ∧ w.cell? ⟨b, off + i * 7 + 4, none⟩ = some (.int .i64 l[i].low) ∧ w.cell? ⟨b, off + i * 7 + 5, none⟩ = some (.int .i64 l[i].high) ∧ w.cell? ⟨b, off + i * 7 + 6, none⟩ = some (.int .i64 l[i].limit)) := by
  obtain ⟨a, c, he, h1, h2, h3⟩ := Rd.slAt (k := 7) (g := DProtected.tr) (by decide) DProtected.tr_len h
  refine ⟨a, c, he, h1, h2, fun hn => ?_⟩
  obtain ⟨b, off, ha, hb, hat⟩ := h3 hn
  refine ⟨b, off, ha, hb, fun i hi => ?_⟩
  obtain ⟨u0, c0, r0⟩ := hat i hi 0 _ rfl
  rw [Rd.lit.1 r0] at c0
  obtain ⟨u1, c1, r1⟩ := hat i hi 1 _ rfl
  rw [Rd.lit.1 r1] at c1
  obtain ⟨u2, c2, r2⟩ := hat i hi 2 _ rfl
  rw [Rd.lit.1 r2] at c2
  obtain ⟨u3, c3, r3⟩ := hat i hi 3 _ rfl
  rw [Rd.lit.1 r3] at c3
  obtain ⟨u4, c4, r4⟩ := hat i hi 4 _ rfl
  rw [Rd.lit.1 r4] at c4
  obtain ⟨u5, c5, r5⟩ := hat i hi 5 _ rfl
  rw [Rd.lit.1 r5] at c5
  obtain ⟨u6, c6, r6⟩ := hat i hi 6 _ rfl
  rw [Rd.lit.1 r6] at c6
  exact ⟨c0, c1, c2, c3, c4, c5, c6⟩
structure DRecord where
  key : ByteArray
  value : ByteArray
def DRecord.tr (x : DRecord) : List Tr := [strT x.key, strT x.value]
theorem DRecord.tr_len (x : DRecord) : x.tr.length = 2 := rfl
def DRecord.sT (l : List DRecord) : Tr := .sl 2 (l.flatMap DRecord.tr)
structure DRecord.ok (x_ : DRecord) : Prop where
  key : x_.key.size ≤ maxLen
  value : x_.value.size ≤ maxLen
theorem DRecord.rd {B : Nat} {w : World} {l : List DRecord} {v : Value} (h : Rd B w (DRecord.sT l) v) :
    ∃ a c, v = .slice a l.length c ∧ l.length ≤ c ∧ c ≤ maxLen ∧ (0 < l.length → ∃ b off, a = some ⟨b, off, none⟩ ∧ b < B ∧ ∀ (i : Nat) (hi : i < l.length),
      w.cell? ⟨b, off + i * 2, none⟩ = some (.string l[i].key) ∧ w.cell? ⟨b, off + i * 2 + 1, none⟩ = some (.string l[i].value)) := by
  obtain ⟨a, c, he, h1, h2, h3⟩ := Rd.slAt (k := 2) (g := DRecord.tr) (by decide) DRecord.tr_len h
  refine ⟨a, c, he, h1, h2, fun hn => ?_⟩
  obtain ⟨b, off, ha, hb, hat⟩ := h3 hn
  refine ⟨b, off, ha, hb, fun i hi => ?_⟩
  obtain ⟨u0, c0, r0⟩ := hat i hi 0 _ rfl
  rw [Rd.lit.1 r0] at c0
  obtain ⟨u1, c1, r1⟩ := hat i hi 1 _ rfl
  rw [Rd.lit.1 r1] at c1
  exact ⟨c0, c1⟩
structure DChange where
  day : Int
  key : ByteArray
  old_ : ByteArray
  new_ : ByteArray
def DChange.tr (x : DChange) : List Tr := [intT x.day, strT x.key, strT x.old_, strT x.new_]
theorem DChange.tr_len (x : DChange) : x.tr.length = 4 := rfl
def DChange.sT (l : List DChange) : Tr := .sl 4 (l.flatMap DChange.tr)
structure DChange.ok (x_ : DChange) : Prop where
  day : I64 x_.day
  key : x_.key.size ≤ maxLen
  old_ : x_.old_.size ≤ maxLen
  new_ : x_.new_.size ≤ maxLen
theorem DChange.rd {B : Nat} {w : World} {l : List DChange} {v : Value} (h : Rd B w (DChange.sT l) v) :
    ∃ a c, v = .slice a l.length c ∧ l.length ≤ c ∧ c ≤ maxLen ∧ (0 < l.length → ∃ b off, a = some ⟨b, off, none⟩ ∧ b < B ∧ ∀ (i : Nat) (hi : i < l.length),
      w.cell? ⟨b, off + i * 4, none⟩ = some (.int .i64 l[i].day) ∧ w.cell? ⟨b, off + i * 4 + 1, none⟩ = some (.string l[i].key) ∧ w.cell? ⟨b, off + i * 4 + 2, none⟩ = some (.string l[i].old_) ∧ w.cell? ⟨b, off + i * 4 + 3, none⟩ = some (.string l[i].new_)) := by
  obtain ⟨a, c, he, h1, h2, h3⟩ := Rd.slAt (k := 4) (g := DChange.tr) (by decide) DChange.tr_len h
  refine ⟨a, c, he, h1, h2, fun hn => ?_⟩
  obtain ⟨b, off, ha, hb, hat⟩ := h3 hn
  refine ⟨b, off, ha, hb, fun i hi => ?_⟩
  obtain ⟨u0, c0, r0⟩ := hat i hi 0 _ rfl
  rw [Rd.lit.1 r0] at c0
  obtain ⟨u1, c1, r1⟩ := hat i hi 1 _ rfl
  rw [Rd.lit.1 r1] at c1
  obtain ⟨u2, c2, r2⟩ := hat i hi 2 _ rfl
  rw [Rd.lit.1 r2] at c2
  obtain ⟨u3, c3, r3⟩ := hat i hi 3 _ rfl
  rw [Rd.lit.1 r3] at c3
  exact ⟨c0, c1, c2, c3⟩
structure DRegister where
  records : List DRecord
  changes : List DChange
def DRegister.tr (x : DRegister) : List Tr := [DRecord.sT x.records, DChange.sT x.changes]
theorem DRegister.tr_len (x : DRegister) : x.tr.length = 2 := rfl
def DRegister.sT (l : List DRegister) : Tr := .sl 2 (l.flatMap DRegister.tr)
structure DRegister.ok (x_ : DRegister) : Prop where
  records : (∀ y ∈ x_.records, y.ok)
  changes : (∀ y ∈ x_.changes, y.ok)
theorem DRegister.rd {B : Nat} {w : World} {l : List DRegister} {v : Value} (h : Rd B w (DRegister.sT l) v) :
    ∃ a c, v = .slice a l.length c ∧ l.length ≤ c ∧ c ≤ maxLen ∧ (0 < l.length → ∃ b off, a = some ⟨b, off, none⟩ ∧ b < B ∧ ∀ (i : Nat) (hi : i < l.length),
      (∃ u, w.cell? ⟨b, off + i * 2, none⟩ = some u ∧ Rd B w (DRecord.sT l[i].records) u) ∧ (∃ u, w.cell? ⟨b, off + i * 2 + 1, none⟩ = some u ∧ Rd B w (DChange.sT l[i].changes) u)) := by
  obtain ⟨a, c, he, h1, h2, h3⟩ := Rd.slAt (k := 2) (g := DRegister.tr) (by decide) DRegister.tr_len h
  refine ⟨a, c, he, h1, h2, fun hn => ?_⟩
  obtain ⟨b, off, ha, hb, hat⟩ := h3 hn
  refine ⟨b, off, ha, hb, fun i hi => ?_⟩
  obtain ⟨u0, c0, r0⟩ := hat i hi 0 _ rfl
  obtain ⟨u1, c1, r1⟩ := hat i hi 1 _ rfl
  exact ⟨⟨u0, c0, r0⟩, ⟨u1, c1, r1⟩⟩
structure DSample where
  distance : Int
  level : Int
def DSample.tr (x : DSample) : List Tr := [intT x.distance, intT x.level]
theorem DSample.tr_len (x : DSample) : x.tr.length = 2 := rfl
def DSample.sT (l : List DSample) : Tr := .sl 2 (l.flatMap DSample.tr)
structure DSample.ok (x_ : DSample) : Prop where
  distance : I64 x_.distance
  level : I64 x_.level
theorem DSample.rd {B : Nat} {w : World} {l : List DSample} {v : Value} (h : Rd B w (DSample.sT l) v) :
    ∃ a c, v = .slice a l.length c ∧ l.length ≤ c ∧ c ≤ maxLen ∧ (0 < l.length → ∃ b off, a = some ⟨b, off, none⟩ ∧ b < B ∧ ∀ (i : Nat) (hi : i < l.length),
      w.cell? ⟨b, off + i * 2, none⟩ = some (.int .i64 l[i].distance) ∧ w.cell? ⟨b, off + i * 2 + 1, none⟩ = some (.int .i64 l[i].level)) := by
  obtain ⟨a, c, he, h1, h2, h3⟩ := Rd.slAt (k := 2) (g := DSample.tr) (by decide) DSample.tr_len h
  refine ⟨a, c, he, h1, h2, fun hn => ?_⟩
  obtain ⟨b, off, ha, hb, hat⟩ := h3 hn
  refine ⟨b, off, ha, hb, fun i hi => ?_⟩
  obtain ⟨u0, c0, r0⟩ := hat i hi 0 _ rfl
  rw [Rd.lit.1 r0] at c0
  obtain ⟨u1, c1, r1⟩ := hat i hi 1 _ rfl
  rw [Rd.lit.1 r1] at c1
  exact ⟨c0, c1⟩
structure DFit where
  offset : Int
  slope : Int
def DFit.tr (x : DFit) : List Tr := [intT x.offset, intT x.slope]
theorem DFit.tr_len (x : DFit) : x.tr.length = 2 := rfl
def DFit.sT (l : List DFit) : Tr := .sl 2 (l.flatMap DFit.tr)
structure DFit.ok (x_ : DFit) : Prop where
  offset : I64 x_.offset
  slope : I64 x_.slope
theorem DFit.rd {B : Nat} {w : World} {l : List DFit} {v : Value} (h : Rd B w (DFit.sT l) v) :
    ∃ a c, v = .slice a l.length c ∧ l.length ≤ c ∧ c ≤ maxLen ∧ (0 < l.length → ∃ b off, a = some ⟨b, off, none⟩ ∧ b < B ∧ ∀ (i : Nat) (hi : i < l.length),
      w.cell? ⟨b, off + i * 2, none⟩ = some (.int .i64 l[i].offset) ∧ w.cell? ⟨b, off + i * 2 + 1, none⟩ = some (.int .i64 l[i].slope)) := by
  obtain ⟨a, c, he, h1, h2, h3⟩ := Rd.slAt (k := 2) (g := DFit.tr) (by decide) DFit.tr_len h
  refine ⟨a, c, he, h1, h2, fun hn => ?_⟩
  obtain ⟨b, off, ha, hb, hat⟩ := h3 hn
  refine ⟨b, off, ha, hb, fun i hi => ?_⟩
  obtain ⟨u0, c0, r0⟩ := hat i hi 0 _ rfl
  rw [Rd.lit.1 r0] at c0
  obtain ⟨u1, c1, r1⟩ := hat i hi 1 _ rfl
  rw [Rd.lit.1 r1] at c1
  exact ⟨c0, c1⟩
structure DFault where
  kind : Int
  who : ByteArray
  what : ByteArray
def DFault.tr (x : DFault) : List Tr := [intT x.kind, strT x.who, strT x.what]
theorem DFault.tr_len (x : DFault) : x.tr.length = 3 := rfl
def DFault.sT (l : List DFault) : Tr := .sl 3 (l.flatMap DFault.tr)
structure DFault.ok (x_ : DFault) : Prop where
  kind : I64 x_.kind
  who : x_.who.size ≤ maxLen
  what : x_.what.size ≤ maxLen
theorem DFault.rd {B : Nat} {w : World} {l : List DFault} {v : Value} (h : Rd B w (DFault.sT l) v) :
    ∃ a c, v = .slice a l.length c ∧ l.length ≤ c ∧ c ≤ maxLen ∧ (0 < l.length → ∃ b off, a = some ⟨b, off, none⟩ ∧ b < B ∧ ∀ (i : Nat) (hi : i < l.length),
      w.cell? ⟨b, off + i * 3, none⟩ = some (.int .i64 l[i].kind) ∧ w.cell? ⟨b, off + i * 3 + 1, none⟩ = some (.string l[i].who) ∧ w.cell? ⟨b, off + i * 3 + 2, none⟩ = some (.string l[i].what)) := by
  obtain ⟨a, c, he, h1, h2, h3⟩ := Rd.slAt (k := 3) (g := DFault.tr) (by decide) DFault.tr_len h
  refine ⟨a, c, he, h1, h2, fun hn => ?_⟩
  obtain ⟨b, off, ha, hb, hat⟩ := h3 hn
  refine ⟨b, off, ha, hb, fun i hi => ?_⟩
  obtain ⟨u0, c0, r0⟩ := hat i hi 0 _ rfl
  rw [Rd.lit.1 r0] at c0
  obtain ⟨u1, c1, r1⟩ := hat i hi 1 _ rfl
  rw [Rd.lit.1 r1] at c1
  obtain ⟨u2, c2, r2⟩ := hat i hi 2 _ rfl
  rw [Rd.lit.1 r2] at c2
  exact ⟨c0, c1, c2⟩
structure DTerrain where
  step : Int
  width : Int
  height : Int
  heights : List Int
  clutter : List Int
def DTerrain.tr (x : DTerrain) : List Tr := [intT x.step, intT x.width, intT x.height, intsT x.heights, intsT x.clutter]
theorem DTerrain.tr_len (x : DTerrain) : x.tr.length = 5 := rfl
def DTerrain.sT (l : List DTerrain) : Tr := .sl 5 (l.flatMap DTerrain.tr)
structure DTerrain.ok (x_ : DTerrain) : Prop where
  step : I64 x_.step
  width : I64 x_.width
  height : I64 x_.height
  heights : (∀ n ∈ x_.heights, I64 n)
  clutter : (∀ n ∈ x_.clutter, I64 n)
theorem DTerrain.rd {B : Nat} {w : World} {l : List DTerrain} {v : Value} (h : Rd B w (DTerrain.sT l) v) :
    ∃ a c, v = .slice a l.length c ∧ l.length ≤ c ∧ c ≤ maxLen ∧ (0 < l.length → ∃ b off, a = some ⟨b, off, none⟩ ∧ b < B ∧ ∀ (i : Nat) (hi : i < l.length),
      w.cell? ⟨b, off + i * 5, none⟩ = some (.int .i64 l[i].step) ∧ w.cell? ⟨b, off + i * 5 + 1, none⟩ = some (.int .i64 l[i].width) ∧ w.cell? ⟨b, off + i * 5 + 2, none⟩ = some (.int .i64 l[i].height) ∧ (∃ u, w.cell? ⟨b, off + i * 5 + 3, none⟩ = some u ∧ Rd B w (intsT l[i].heights) u) ∧ (∃ u, w.cell? ⟨b, off + i * 5 + 4, none⟩ = some u ∧ Rd B w (intsT l[i].clutter) u)) := by
  obtain ⟨a, c, he, h1, h2, h3⟩ := Rd.slAt (k := 5) (g := DTerrain.tr) (by decide) DTerrain.tr_len h
  refine ⟨a, c, he, h1, h2, fun hn => ?_⟩
  obtain ⟨b, off, ha, hb, hat⟩ := h3 hn
  refine ⟨b, off, ha, hb, fun i hi => ?_⟩
  obtain ⟨u0, c0, r0⟩ := hat i hi 0 _ rfl
  rw [Rd.lit.1 r0] at c0
  obtain ⟨u1, c1, r1⟩ := hat i hi 1 _ rfl
  rw [Rd.lit.1 r1] at c1
  obtain ⟨u2, c2, r2⟩ := hat i hi 2 _ rfl
  rw [Rd.lit.1 r2] at c2
  obtain ⟨u3, c3, r3⟩ := hat i hi 3 _ rfl
  obtain ⟨u4, c4, r4⟩ := hat i hi 4 _ rfl
  exact ⟨c0, c1, c2, ⟨u3, c3, r3⟩, ⟨u4, c4, r4⟩⟩
structure DPlan where
  terrain : DTerrain
  network : DNetwork
  bands : List DBand
  licences : List DLicence
  protected_ : List DProtected
  apart : List (List Int)
  day : Int
def DPlan.tr (x : DPlan) : List Tr := [intT x.terrain.step, intT x.terrain.width, intT x.terrain.height, intsT x.terrain.heights, intsT x.terrain.clutter, DSite.sT x.network.sites, DSector.sT x.network.sectors, DAntenna.sT x.network.antennas, DRadio.sT x.network.radios, DBand.sT x.bands, DLicence.sT x.licences, DProtected.sT x.protected_, intssT x.apart, intT x.day]
theorem DPlan.tr_len (x : DPlan) : x.tr.length = 14 := rfl
def DPlan.sT (l : List DPlan) : Tr := .sl 14 (l.flatMap DPlan.tr)
structure DPlan.ok (x_ : DPlan) : Prop where
  terrain : x_.terrain.ok
  network : x_.network.ok
  bands : (∀ y ∈ x_.bands, y.ok)
  licences : (∀ y ∈ x_.licences, y.ok)
  protected_ : (∀ y ∈ x_.protected_, y.ok)
  apart : (∀ r ∈ x_.apart, ∀ n ∈ r, I64 n)
  day : I64 x_.day
theorem DPlan.rd {B : Nat} {w : World} {l : List DPlan} {v : Value} (h : Rd B w (DPlan.sT l) v) :
    ∃ a c, v = .slice a l.length c ∧ l.length ≤ c ∧ c ≤ maxLen ∧ (0 < l.length → ∃ b off, a = some ⟨b, off, none⟩ ∧ b < B ∧ ∀ (i : Nat) (hi : i < l.length),
      w.cell? ⟨b, off + i * 14, none⟩ = some (.int .i64 l[i].terrain.step) ∧ w.cell? ⟨b, off + i * 14 + 1, none⟩ = some (.int .i64 l[i].terrain.width) ∧ w.cell? ⟨b, off + i * 14 + 2, none⟩ = some (.int .i64 l[i].terrain.height) ∧ (∃ u, w.cell? ⟨b, off + i * 14 + 3, none⟩ = some u ∧ Rd B w (intsT l[i].terrain.heights) u) ∧ (∃ u, w.cell? ⟨b, off + i * 14 + 4, none⟩ = some u ∧ Rd B w (intsT l[i].terrain.clutter) u) ∧ (∃ u, w.cell? ⟨b, off + i * 14 + 5, none⟩ = some u ∧ Rd B w (DSite.sT l[i].network.sites) u) ∧ (∃ u, w.cell? ⟨b, off + i * 14 + 6, none⟩ = some u ∧ Rd B w (DSector.sT l[i].network.sectors) u) ∧ (∃ u, w.cell? ⟨b, off + i * 14 + 7, none⟩ = some u ∧ Rd B w (DAntenna.sT l[i].network.antennas) u) ∧ (∃ u, w.cell? ⟨b, off + i * 14 + 8, none⟩ = some u ∧ Rd B w (DRadio.sT l[i].network.radios) u) ∧ (∃ u, w.cell? ⟨b, off + i * 14 + 9, none⟩ = some u ∧ Rd B w (DBand.sT l[i].bands) u) ∧ (∃ u, w.cell? ⟨b, off + i * 14 + 10, none⟩ = some u ∧ Rd B w (DLicence.sT l[i].licences) u) ∧ (∃ u, w.cell? ⟨b, off + i * 14 + 11, none⟩ = some u ∧ Rd B w (DProtected.sT l[i].protected_) u) ∧ (∃ u, w.cell? ⟨b, off + i * 14 + 12, none⟩ = some u ∧ Rd B w (intssT l[i].apart) u) ∧ w.cell? ⟨b, off + i * 14 + 13, none⟩ = some (.int .i64 l[i].day)) := by
  obtain ⟨a, c, he, h1, h2, h3⟩ := Rd.slAt (k := 14) (g := DPlan.tr) (by decide) DPlan.tr_len h
  refine ⟨a, c, he, h1, h2, fun hn => ?_⟩
  obtain ⟨b, off, ha, hb, hat⟩ := h3 hn
  refine ⟨b, off, ha, hb, fun i hi => ?_⟩
  obtain ⟨u0, c0, r0⟩ := hat i hi 0 _ rfl
  rw [Rd.lit.1 r0] at c0
  obtain ⟨u1, c1, r1⟩ := hat i hi 1 _ rfl
  rw [Rd.lit.1 r1] at c1
  obtain ⟨u2, c2, r2⟩ := hat i hi 2 _ rfl
  rw [Rd.lit.1 r2] at c2
  obtain ⟨u3, c3, r3⟩ := hat i hi 3 _ rfl
  obtain ⟨u4, c4, r4⟩ := hat i hi 4 _ rfl
  obtain ⟨u5, c5, r5⟩ := hat i hi 5 _ rfl
  obtain ⟨u6, c6, r6⟩ := hat i hi 6 _ rfl
  obtain ⟨u7, c7, r7⟩ := hat i hi 7 _ rfl
  obtain ⟨u8, c8, r8⟩ := hat i hi 8 _ rfl
  obtain ⟨u9, c9, r9⟩ := hat i hi 9 _ rfl
  obtain ⟨u10, c10, r10⟩ := hat i hi 10 _ rfl
  obtain ⟨u11, c11, r11⟩ := hat i hi 11 _ rfl
  obtain ⟨u12, c12, r12⟩ := hat i hi 12 _ rfl
  obtain ⟨u13, c13, r13⟩ := hat i hi 13 _ rfl
  rw [Rd.lit.1 r13] at c13
  exact ⟨c0, c1, c2, ⟨u3, c3, r3⟩, ⟨u4, c4, r4⟩, ⟨u5, c5, r5⟩, ⟨u6, c6, r6⟩, ⟨u7, c7, r7⟩, ⟨u8, c8, r8⟩, ⟨u9, c9, r9⟩, ⟨u10, c10, r10⟩, ⟨u11, c11, r11⟩, ⟨u12, c12, r12⟩, c13⟩
structure DDesk where
  plan : DPlan
  requests : List DRequest
def DDesk.tr (x : DDesk) : List Tr := [intT x.plan.terrain.step, intT x.plan.terrain.width, intT x.plan.terrain.height, intsT x.plan.terrain.heights, intsT x.plan.terrain.clutter, DSite.sT x.plan.network.sites, DSector.sT x.plan.network.sectors, DAntenna.sT x.plan.network.antennas, DRadio.sT x.plan.network.radios, DBand.sT x.plan.bands, DLicence.sT x.plan.licences, DProtected.sT x.plan.protected_, intssT x.plan.apart, intT x.plan.day, DRequest.sT x.requests]
theorem DDesk.tr_len (x : DDesk) : x.tr.length = 15 := rfl
def DDesk.sT (l : List DDesk) : Tr := .sl 15 (l.flatMap DDesk.tr)
structure DDesk.ok (x_ : DDesk) : Prop where
  plan : x_.plan.ok
  requests : (∀ y ∈ x_.requests, y.ok)
theorem DDesk.rd {B : Nat} {w : World} {l : List DDesk} {v : Value} (h : Rd B w (DDesk.sT l) v) :
    ∃ a c, v = .slice a l.length c ∧ l.length ≤ c ∧ c ≤ maxLen ∧ (0 < l.length → ∃ b off, a = some ⟨b, off, none⟩ ∧ b < B ∧ ∀ (i : Nat) (hi : i < l.length),
      w.cell? ⟨b, off + i * 15, none⟩ = some (.int .i64 l[i].plan.terrain.step) ∧ w.cell? ⟨b, off + i * 15 + 1, none⟩ = some (.int .i64 l[i].plan.terrain.width) ∧ w.cell? ⟨b, off + i * 15 + 2, none⟩ = some (.int .i64 l[i].plan.terrain.height) ∧ (∃ u, w.cell? ⟨b, off + i * 15 + 3, none⟩ = some u ∧ Rd B w (intsT l[i].plan.terrain.heights) u) ∧ (∃ u, w.cell? ⟨b, off + i * 15 + 4, none⟩ = some u ∧ Rd B w (intsT l[i].plan.terrain.clutter) u) ∧ (∃ u, w.cell? ⟨b, off + i * 15 + 5, none⟩ = some u ∧ Rd B w (DSite.sT l[i].plan.network.sites) u) ∧ (∃ u, w.cell? ⟨b, off + i * 15 + 6, none⟩ = some u ∧ Rd B w (DSector.sT l[i].plan.network.sectors) u) ∧ (∃ u, w.cell? ⟨b, off + i * 15 + 7, none⟩ = some u ∧ Rd B w (DAntenna.sT l[i].plan.network.antennas) u) ∧ (∃ u, w.cell? ⟨b, off + i * 15 + 8, none⟩ = some u ∧ Rd B w (DRadio.sT l[i].plan.network.radios) u) ∧ (∃ u, w.cell? ⟨b, off + i * 15 + 9, none⟩ = some u ∧ Rd B w (DBand.sT l[i].plan.bands) u) ∧ (∃ u, w.cell? ⟨b, off + i * 15 + 10, none⟩ = some u ∧ Rd B w (DLicence.sT l[i].plan.licences) u) ∧ (∃ u, w.cell? ⟨b, off + i * 15 + 11, none⟩ = some u ∧ Rd B w (DProtected.sT l[i].plan.protected_) u) ∧ (∃ u, w.cell? ⟨b, off + i * 15 + 12, none⟩ = some u ∧ Rd B w (intssT l[i].plan.apart) u) ∧ w.cell? ⟨b, off + i * 15 + 13, none⟩ = some (.int .i64 l[i].plan.day) ∧ (∃ u, w.cell? ⟨b, off + i * 15 + 14, none⟩ = some u ∧ Rd B w (DRequest.sT l[i].requests) u)) := by
  obtain ⟨a, c, he, h1, h2, h3⟩ := Rd.slAt (k := 15) (g := DDesk.tr) (by decide) DDesk.tr_len h
  refine ⟨a, c, he, h1, h2, fun hn => ?_⟩
  obtain ⟨b, off, ha, hb, hat⟩ := h3 hn
  refine ⟨b, off, ha, hb, fun i hi => ?_⟩
  obtain ⟨u0, c0, r0⟩ := hat i hi 0 _ rfl
  rw [Rd.lit.1 r0] at c0
  obtain ⟨u1, c1, r1⟩ := hat i hi 1 _ rfl
  rw [Rd.lit.1 r1] at c1
  obtain ⟨u2, c2, r2⟩ := hat i hi 2 _ rfl
  rw [Rd.lit.1 r2] at c2
  obtain ⟨u3, c3, r3⟩ := hat i hi 3 _ rfl
  obtain ⟨u4, c4, r4⟩ := hat i hi 4 _ rfl
  obtain ⟨u5, c5, r5⟩ := hat i hi 5 _ rfl
  obtain ⟨u6, c6, r6⟩ := hat i hi 6 _ rfl
  obtain ⟨u7, c7, r7⟩ := hat i hi 7 _ rfl
  obtain ⟨u8, c8, r8⟩ := hat i hi 8 _ rfl
  obtain ⟨u9, c9, r9⟩ := hat i hi 9 _ rfl
  obtain ⟨u10, c10, r10⟩ := hat i hi 10 _ rfl
  obtain ⟨u11, c11, r11⟩ := hat i hi 11 _ rfl
  obtain ⟨u12, c12, r12⟩ := hat i hi 12 _ rfl
  obtain ⟨u13, c13, r13⟩ := hat i hi 13 _ rfl
  rw [Rd.lit.1 r13] at c13
  obtain ⟨u14, c14, r14⟩ := hat i hi 14 _ rfl
  exact ⟨c0, c1, c2, ⟨u3, c3, r3⟩, ⟨u4, c4, r4⟩, ⟨u5, c5, r5⟩, ⟨u6, c6, r6⟩, ⟨u7, c7, r7⟩, ⟨u8, c8, r8⟩, ⟨u9, c9, r9⟩, ⟨u10, c10, r10⟩, ⟨u11, c11, r11⟩, ⟨u12, c12, r12⟩, c13, ⟨u14, c14, r14⟩⟩
structure DRaster where
  step : Int
  width : Int
  height : Int
  server : List Int
  level : List Int
def DRaster.tr (x : DRaster) : List Tr := [intT x.step, intT x.width, intT x.height, intsT x.server, intsT x.level]
theorem DRaster.tr_len (x : DRaster) : x.tr.length = 5 := rfl
def DRaster.sT (l : List DRaster) : Tr := .sl 5 (l.flatMap DRaster.tr)
structure DRaster.ok (x_ : DRaster) : Prop where
  step : I64 x_.step
  width : I64 x_.width
  height : I64 x_.height
  server : (∀ n ∈ x_.server, I64 n)
  level : (∀ n ∈ x_.level, I64 n)
theorem DRaster.rd {B : Nat} {w : World} {l : List DRaster} {v : Value} (h : Rd B w (DRaster.sT l) v) :
    ∃ a c, v = .slice a l.length c ∧ l.length ≤ c ∧ c ≤ maxLen ∧ (0 < l.length → ∃ b off, a = some ⟨b, off, none⟩ ∧ b < B ∧ ∀ (i : Nat) (hi : i < l.length),
      w.cell? ⟨b, off + i * 5, none⟩ = some (.int .i64 l[i].step) ∧ w.cell? ⟨b, off + i * 5 + 1, none⟩ = some (.int .i64 l[i].width) ∧ w.cell? ⟨b, off + i * 5 + 2, none⟩ = some (.int .i64 l[i].height) ∧ (∃ u, w.cell? ⟨b, off + i * 5 + 3, none⟩ = some u ∧ Rd B w (intsT l[i].server) u) ∧ (∃ u, w.cell? ⟨b, off + i * 5 + 4, none⟩ = some u ∧ Rd B w (intsT l[i].level) u)) := by
  obtain ⟨a, c, he, h1, h2, h3⟩ := Rd.slAt (k := 5) (g := DRaster.tr) (by decide) DRaster.tr_len h
  refine ⟨a, c, he, h1, h2, fun hn => ?_⟩
  obtain ⟨b, off, ha, hb, hat⟩ := h3 hn
  refine ⟨b, off, ha, hb, fun i hi => ?_⟩
  obtain ⟨u0, c0, r0⟩ := hat i hi 0 _ rfl
  rw [Rd.lit.1 r0] at c0
  obtain ⟨u1, c1, r1⟩ := hat i hi 1 _ rfl
  rw [Rd.lit.1 r1] at c1
  obtain ⟨u2, c2, r2⟩ := hat i hi 2 _ rfl
  rw [Rd.lit.1 r2] at c2
  obtain ⟨u3, c3, r3⟩ := hat i hi 3 _ rfl
  obtain ⟨u4, c4, r4⟩ := hat i hi 4 _ rfl
  exact ⟨c0, c1, c2, ⟨u3, c3, r3⟩, ⟨u4, c4, r4⟩⟩
theorem DPoint.opn {B : Nat} {w : World} {x : DPoint} {vs : List Value} (h0 : RdV B w x.tr vs) : vs = [.int .i64 x.x, .int .i64 x.y] := by
  obtain ⟨y0, r0, rfl, d0, h1⟩ := RdV.uncons h0
  obtain ⟨y1, r1, rfl, d1, h2⟩ := RdV.uncons h1
  obtain rfl := RdV.unnil h2
  obtain rfl := Rd.lit.1 d0
  obtain rfl := Rd.lit.1 d1
  exact rfl
theorem DMode.opn {B : Nat} {w : World} {x : DMode} {vs : List Value} (h0 : RdV B w x.tr vs) : vs = [.int .i64 x.need, .int .i64 x.rate] := by
  obtain ⟨y0, r0, rfl, d0, h1⟩ := RdV.uncons h0
  obtain ⟨y1, r1, rfl, d1, h2⟩ := RdV.uncons h1
  obtain rfl := RdV.unnil h2
  obtain rfl := Rd.lit.1 d0
  obtain rfl := Rd.lit.1 d1
  exact rfl
theorem DArea.opn {B : Nat} {w : World} {x : DArea} {vs : List Value} (h0 : RdV B w x.tr vs) : vs = [.int .i64 x.west, .int .i64 x.south, .int .i64 x.east, .int .i64 x.north] := by
  obtain ⟨y0, r0, rfl, d0, h1⟩ := RdV.uncons h0
  obtain ⟨y1, r1, rfl, d1, h2⟩ := RdV.uncons h1
  obtain ⟨y2, r2, rfl, d2, h3⟩ := RdV.uncons h2
  obtain ⟨y3, r3, rfl, d3, h4⟩ := RdV.uncons h3
  obtain rfl := RdV.unnil h4
  obtain rfl := Rd.lit.1 d0
  obtain rfl := Rd.lit.1 d1
  obtain rfl := Rd.lit.1 d2
  obtain rfl := Rd.lit.1 d3
  exact rfl
theorem DEnd.opn {B : Nat} {w : World} {x : DEnd} {vs : List Value} (h0 : RdV B w x.tr vs) : vs = [.int .i64 x.place.x, .int .i64 x.place.y, .int .i64 x.above] := by
  obtain ⟨y0, r0, rfl, d0, h1⟩ := RdV.uncons h0
  obtain ⟨y1, r1, rfl, d1, h2⟩ := RdV.uncons h1
  obtain ⟨y2, r2, rfl, d2, h3⟩ := RdV.uncons h2
  obtain rfl := RdV.unnil h3
  obtain rfl := Rd.lit.1 d0
  obtain rfl := Rd.lit.1 d1
  obtain rfl := Rd.lit.1 d2
  exact rfl
theorem DSite.opn {B : Nat} {w : World} {x : DSite} {vs : List Value} (h0 : RdV B w x.tr vs) : vs = [.string x.name, .string x.holder, .int .i64 x.place.x, .int .i64 x.place.y] := by
  obtain ⟨y0, r0, rfl, d0, h1⟩ := RdV.uncons h0
  obtain ⟨y1, r1, rfl, d1, h2⟩ := RdV.uncons h1
  obtain ⟨y2, r2, rfl, d2, h3⟩ := RdV.uncons h2
  obtain ⟨y3, r3, rfl, d3, h4⟩ := RdV.uncons h3
  obtain rfl := RdV.unnil h4
  obtain rfl := Rd.lit.1 d0
  obtain rfl := Rd.lit.1 d1
  obtain rfl := Rd.lit.1 d2
  obtain rfl := Rd.lit.1 d3
  exact rfl
theorem DSector.opn {B : Nat} {w : World} {x : DSector} {vs : List Value} (h0 : RdV B w x.tr vs) : vs = [.string x.name, .string x.site, .string x.antenna, .string x.radio, .string x.band, .int .i64 x.azimuth, .int .i64 x.tilt, .int .i64 x.above, .int .i64 x.channel] := by
  obtain ⟨y0, r0, rfl, d0, h1⟩ := RdV.uncons h0
  obtain ⟨y1, r1, rfl, d1, h2⟩ := RdV.uncons h1
  obtain ⟨y2, r2, rfl, d2, h3⟩ := RdV.uncons h2
  obtain ⟨y3, r3, rfl, d3, h4⟩ := RdV.uncons h3
  obtain ⟨y4, r4, rfl, d4, h5⟩ := RdV.uncons h4
  obtain ⟨y5, r5, rfl, d5, h6⟩ := RdV.uncons h5
  obtain ⟨y6, r6, rfl, d6, h7⟩ := RdV.uncons h6
  obtain ⟨y7, r7, rfl, d7, h8⟩ := RdV.uncons h7
  obtain ⟨y8, r8, rfl, d8, h9⟩ := RdV.uncons h8
  obtain rfl := RdV.unnil h9
  obtain rfl := Rd.lit.1 d0
  obtain rfl := Rd.lit.1 d1
  obtain rfl := Rd.lit.1 d2
  obtain rfl := Rd.lit.1 d3
  obtain rfl := Rd.lit.1 d4
  obtain rfl := Rd.lit.1 d5
  obtain rfl := Rd.lit.1 d6
  obtain rfl := Rd.lit.1 d7
  obtain rfl := Rd.lit.1 d8
  exact rfl
theorem DAntenna.opn {B : Nat} {w : World} {x : DAntenna} {vs : List Value} (h0 : RdV B w x.tr vs) : ∃ v2 v3, vs = [.string x.name, .int .i64 x.gain, v2, v3] ∧ Rd B w (intsT x.horizontal) v2 ∧ Rd B w (intsT x.vertical) v3 := by
  obtain ⟨y0, r0, rfl, d0, h1⟩ := RdV.uncons h0
  obtain ⟨y1, r1, rfl, d1, h2⟩ := RdV.uncons h1
  obtain ⟨y2, r2, rfl, d2, h3⟩ := RdV.uncons h2
  obtain ⟨y3, r3, rfl, d3, h4⟩ := RdV.uncons h3
  obtain rfl := RdV.unnil h4
  obtain rfl := Rd.lit.1 d0
  obtain rfl := Rd.lit.1 d1
  exact ⟨y2, y3, rfl, d2, d3⟩
theorem DRadio.opn {B : Nat} {w : World} {x : DRadio} {vs : List Value} (h0 : RdV B w x.tr vs) : ∃ v5, vs = [.string x.name, .int .i64 x.power, .int .i64 x.feeder, .int .i64 x.noise, .int .i64 x.width, v5] ∧ Rd B w (DMode.sT x.modes) v5 := by
  obtain ⟨y0, r0, rfl, d0, h1⟩ := RdV.uncons h0
  obtain ⟨y1, r1, rfl, d1, h2⟩ := RdV.uncons h1
  obtain ⟨y2, r2, rfl, d2, h3⟩ := RdV.uncons h2
  obtain ⟨y3, r3, rfl, d3, h4⟩ := RdV.uncons h3
  obtain ⟨y4, r4, rfl, d4, h5⟩ := RdV.uncons h4
  obtain ⟨y5, r5, rfl, d5, h6⟩ := RdV.uncons h5
  obtain rfl := RdV.unnil h6
  obtain rfl := Rd.lit.1 d0
  obtain rfl := Rd.lit.1 d1
  obtain rfl := Rd.lit.1 d2
  obtain rfl := Rd.lit.1 d3
  obtain rfl := Rd.lit.1 d4
  exact ⟨y5, rfl, d5⟩
theorem DNetwork.opn {B : Nat} {w : World} {x : DNetwork} {vs : List Value} (h0 : RdV B w x.tr vs) : ∃ v0 v1 v2 v3, vs = [v0, v1, v2, v3] ∧ Rd B w (DSite.sT x.sites) v0 ∧ Rd B w (DSector.sT x.sectors) v1 ∧ Rd B w (DAntenna.sT x.antennas) v2 ∧ Rd B w (DRadio.sT x.radios) v3 := by
  obtain ⟨y0, r0, rfl, d0, h1⟩ := RdV.uncons h0
  obtain ⟨y1, r1, rfl, d1, h2⟩ := RdV.uncons h1
  obtain ⟨y2, r2, rfl, d2, h3⟩ := RdV.uncons h2
  obtain ⟨y3, r3, rfl, d3, h4⟩ := RdV.uncons h3
  obtain rfl := RdV.unnil h4
  exact ⟨y0, y1, y2, y3, rfl, d0, d1, d2, d3⟩
theorem DBand.opn {B : Nat} {w : World} {x : DBand} {vs : List Value} (h0 : RdV B w x.tr vs) : vs = [.string x.name, .int .i64 x.low, .int .i64 x.high, .int .i64 x.raster, .int .i64 x.duplex] := by
  obtain ⟨y0, r0, rfl, d0, h1⟩ := RdV.uncons h0
  obtain ⟨y1, r1, rfl, d1, h2⟩ := RdV.uncons h1
  obtain ⟨y2, r2, rfl, d2, h3⟩ := RdV.uncons h2
  obtain ⟨y3, r3, rfl, d3, h4⟩ := RdV.uncons h3
  obtain ⟨y4, r4, rfl, d4, h5⟩ := RdV.uncons h4
  obtain rfl := RdV.unnil h5
  obtain rfl := Rd.lit.1 d0
  obtain rfl := Rd.lit.1 d1
  obtain rfl := Rd.lit.1 d2
  obtain rfl := Rd.lit.1 d3
  obtain rfl := Rd.lit.1 d4
  exact rfl
theorem DProblem.opn {B : Nat} {w : World} {x : DProblem} {vs : List Value} (h0 : RdV B w x.tr vs) : ∃ v0 v1, vs = [v0, v1] ∧ Rd B w (intssT x.domains) v0 ∧ Rd B w (intssT x.apart) v1 := by
  obtain ⟨y0, r0, rfl, d0, h1⟩ := RdV.uncons h0
  obtain ⟨y1, r1, rfl, d1, h2⟩ := RdV.uncons h1
  obtain rfl := RdV.unnil h2
  exact ⟨y0, y1, rfl, d0, d1⟩
theorem DLicence.opn {B : Nat} {w : World} {x : DLicence} {vs : List Value} (h0 : RdV B w x.tr vs) : vs = [.string x.id, .string x.holder, .int .i64 x.low, .int .i64 x.high, .int .i64 x.area.west, .int .i64 x.area.south, .int .i64 x.area.east, .int .i64 x.area.north, .int .i64 x.from_, .int .i64 x.until_, .int .i64 x.power] := by
  obtain ⟨y0, r0, rfl, d0, h1⟩ := RdV.uncons h0
  obtain ⟨y1, r1, rfl, d1, h2⟩ := RdV.uncons h1
  obtain ⟨y2, r2, rfl, d2, h3⟩ := RdV.uncons h2
  obtain ⟨y3, r3, rfl, d3, h4⟩ := RdV.uncons h3
  obtain ⟨y4, r4, rfl, d4, h5⟩ := RdV.uncons h4
  obtain ⟨y5, r5, rfl, d5, h6⟩ := RdV.uncons h5
  obtain ⟨y6, r6, rfl, d6, h7⟩ := RdV.uncons h6
  obtain ⟨y7, r7, rfl, d7, h8⟩ := RdV.uncons h7
  obtain ⟨y8, r8, rfl, d8, h9⟩ := RdV.uncons h8
  obtain ⟨y9, r9, rfl, d9, h10⟩ := RdV.uncons h9
  obtain ⟨y10, r10, rfl, d10, h11⟩ := RdV.uncons h10
  obtain rfl := RdV.unnil h11
  obtain rfl := Rd.lit.1 d0
  obtain rfl := Rd.lit.1 d1
  obtain rfl := Rd.lit.1 d2
  obtain rfl := Rd.lit.1 d3
  obtain rfl := Rd.lit.1 d4
  obtain rfl := Rd.lit.1 d5
  obtain rfl := Rd.lit.1 d6
  obtain rfl := Rd.lit.1 d7
  obtain rfl := Rd.lit.1 d8
  obtain rfl := Rd.lit.1 d9
  obtain rfl := Rd.lit.1 d10
  exact rfl
theorem DRequest.opn {B : Nat} {w : World} {x : DRequest} {vs : List Value} (h0 : RdV B w x.tr vs) : vs = [.string x.id, .string x.applicant, .string x.partner, .int .i64 x.low, .int .i64 x.high, .int .i64 x.filed, .int .i64 x.deadline, .int .i64 x.state] := by
  obtain ⟨y0, r0, rfl, d0, h1⟩ := RdV.uncons h0
  obtain ⟨y1, r1, rfl, d1, h2⟩ := RdV.uncons h1
  obtain ⟨y2, r2, rfl, d2, h3⟩ := RdV.uncons h2
  obtain ⟨y3, r3, rfl, d3, h4⟩ := RdV.uncons h3
  obtain ⟨y4, r4, rfl, d4, h5⟩ := RdV.uncons h4
  obtain ⟨y5, r5, rfl, d5, h6⟩ := RdV.uncons h5
  obtain ⟨y6, r6, rfl, d6, h7⟩ := RdV.uncons h6
  obtain ⟨y7, r7, rfl, d7, h8⟩ := RdV.uncons h7
  obtain rfl := RdV.unnil h8
  obtain rfl := Rd.lit.1 d0
  obtain rfl := Rd.lit.1 d1
  obtain rfl := Rd.lit.1 d2
  obtain rfl := Rd.lit.1 d3
  obtain rfl := Rd.lit.1 d4
  obtain rfl := Rd.lit.1 d5
  obtain rfl := Rd.lit.1 d6
  obtain rfl := Rd.lit.1 d7
  exact rfl
theorem DProtected.opn {B : Nat} {w : World} {x : DProtected} {vs : List Value} (h0 : RdV B w x.tr vs) : vs = [.string x.name, .int .i64 x.at_.place.x, .int .i64 x.at_.place.y, .int .i64 x.at_.above, .int .i64 x.low, .int .i64 x.high, .int .i64 x.limit] := by
  obtain ⟨y0, r0, rfl, d0, h1⟩ := RdV.uncons h0
  obtain ⟨y1, r1, rfl, d1, h2⟩ := RdV.uncons h1
  obtain ⟨y2, r2, rfl, d2, h3⟩ := RdV.uncons h2
  obtain ⟨y3, r3, rfl, d3, h4⟩ := RdV.uncons h3
  obtain ⟨y4, r4, rfl, d4, h5⟩ := RdV.uncons h4
  obtain ⟨y5, r5, rfl, d5, h6⟩ := RdV.uncons h5
  obtain ⟨y6, r6, rfl, d6, h7⟩ := RdV.uncons h6
  obtain rfl := RdV.unnil h7
  obtain rfl := Rd.lit.1 d0
  obtain rfl := Rd.lit.1 d1
  obtain rfl := Rd.lit.1 d2
  obtain rfl := Rd.lit.1 d3
  obtain rfl := Rd.lit.1 d4
  obtain rfl := Rd.lit.1 d5
  obtain rfl := Rd.lit.1 d6
  exact rfl
theorem DRecord.opn {B : Nat} {w : World} {x : DRecord} {vs : List Value} (h0 : RdV B w x.tr vs) : vs = [.string x.key, .string x.value] := by
  obtain ⟨y0, r0, rfl, d0, h1⟩ := RdV.uncons h0
  obtain ⟨y1, r1, rfl, d1, h2⟩ := RdV.uncons h1
  obtain rfl := RdV.unnil h2
  obtain rfl := Rd.lit.1 d0
  obtain rfl := Rd.lit.1 d1
  exact rfl
theorem DChange.opn {B : Nat} {w : World} {x : DChange} {vs : List Value} (h0 : RdV B w x.tr vs) : vs = [.int .i64 x.day, .string x.key, .string x.old_, .string x.new_] := by
  obtain ⟨y0, r0, rfl, d0, h1⟩ := RdV.uncons h0
  obtain ⟨y1, r1, rfl, d1, h2⟩ := RdV.uncons h1
  obtain ⟨y2, r2, rfl, d2, h3⟩ := RdV.uncons h2
  obtain ⟨y3, r3, rfl, d3, h4⟩ := RdV.uncons h3
  obtain rfl := RdV.unnil h4
  obtain rfl := Rd.lit.1 d0
  obtain rfl := Rd.lit.1 d1
  obtain rfl := Rd.lit.1 d2
  obtain rfl := Rd.lit.1 d3
  exact rfl
theorem DRegister.opn {B : Nat} {w : World} {x : DRegister} {vs : List Value} (h0 : RdV B w x.tr vs) : ∃ v0 v1, vs = [v0, v1] ∧ Rd B w (DRecord.sT x.records) v0 ∧ Rd B w (DChange.sT x.changes) v1 := by
  obtain ⟨y0, r0, rfl, d0, h1⟩ := RdV.uncons h0
  obtain ⟨y1, r1, rfl, d1, h2⟩ := RdV.uncons h1
  obtain rfl := RdV.unnil h2
  exact ⟨y0, y1, rfl, d0, d1⟩
theorem DSample.opn {B : Nat} {w : World} {x : DSample} {vs : List Value} (h0 : RdV B w x.tr vs) : vs = [.int .i64 x.distance, .int .i64 x.level] := by
  obtain ⟨y0, r0, rfl, d0, h1⟩ := RdV.uncons h0
  obtain ⟨y1, r1, rfl, d1, h2⟩ := RdV.uncons h1
  obtain rfl := RdV.unnil h2
  obtain rfl := Rd.lit.1 d0
  obtain rfl := Rd.lit.1 d1
  exact rfl
theorem DFit.opn {B : Nat} {w : World} {x : DFit} {vs : List Value} (h0 : RdV B w x.tr vs) : vs = [.int .i64 x.offset, .int .i64 x.slope] := by
  obtain ⟨y0, r0, rfl, d0, h1⟩ := RdV.uncons h0
  obtain ⟨y1, r1, rfl, d1, h2⟩ := RdV.uncons h1
  obtain rfl := RdV.unnil h2
  obtain rfl := Rd.lit.1 d0
  obtain rfl := Rd.lit.1 d1
  exact rfl
theorem DFault.opn {B : Nat} {w : World} {x : DFault} {vs : List Value} (h0 : RdV B w x.tr vs) : vs = [.int .i64 x.kind, .string x.who, .string x.what] := by
  obtain ⟨y0, r0, rfl, d0, h1⟩ := RdV.uncons h0
  obtain ⟨y1, r1, rfl, d1, h2⟩ := RdV.uncons h1
  obtain ⟨y2, r2, rfl, d2, h3⟩ := RdV.uncons h2
  obtain rfl := RdV.unnil h3
  obtain rfl := Rd.lit.1 d0
  obtain rfl := Rd.lit.1 d1
  obtain rfl := Rd.lit.1 d2
  exact rfl
theorem DTerrain.opn {B : Nat} {w : World} {x : DTerrain} {vs : List Value} (h0 : RdV B w x.tr vs) : ∃ v3 v4, vs = [.int .i64 x.step, .int .i64 x.width, .int .i64 x.height, v3, v4] ∧ Rd B w (intsT x.heights) v3 ∧ Rd B w (intsT x.clutter) v4 := by
  obtain ⟨y0, r0, rfl, d0, h1⟩ := RdV.uncons h0
  obtain ⟨y1, r1, rfl, d1, h2⟩ := RdV.uncons h1
  obtain ⟨y2, r2, rfl, d2, h3⟩ := RdV.uncons h2
  obtain ⟨y3, r3, rfl, d3, h4⟩ := RdV.uncons h3
  obtain ⟨y4, r4, rfl, d4, h5⟩ := RdV.uncons h4
  obtain rfl := RdV.unnil h5
  obtain rfl := Rd.lit.1 d0
  obtain rfl := Rd.lit.1 d1
  obtain rfl := Rd.lit.1 d2
  exact ⟨y3, y4, rfl, d3, d4⟩
theorem DPlan.opn {B : Nat} {w : World} {x : DPlan} {vs : List Value} (h0 : RdV B w x.tr vs) : ∃ v3 v4 v5 v6 v7 v8 v9 v10 v11 v12, vs = [.int .i64 x.terrain.step, .int .i64 x.terrain.width, .int .i64 x.terrain.height, v3, v4, v5, v6, v7, v8, v9, v10, v11, v12, .int .i64 x.day] ∧ Rd B w (intsT x.terrain.heights) v3 ∧ Rd B w (intsT x.terrain.clutter) v4 ∧ Rd B w (DSite.sT x.network.sites) v5 ∧ Rd B w (DSector.sT x.network.sectors) v6 ∧ Rd B w (DAntenna.sT x.network.antennas) v7 ∧ Rd B w (DRadio.sT x.network.radios) v8 ∧ Rd B w (DBand.sT x.bands) v9 ∧ Rd B w (DLicence.sT x.licences) v10 ∧ Rd B w (DProtected.sT x.protected_) v11 ∧ Rd B w (intssT x.apart) v12 := by
  obtain ⟨y0, r0, rfl, d0, h1⟩ := RdV.uncons h0
  obtain ⟨y1, r1, rfl, d1, h2⟩ := RdV.uncons h1
  obtain ⟨y2, r2, rfl, d2, h3⟩ := RdV.uncons h2
  obtain ⟨y3, r3, rfl, d3, h4⟩ := RdV.uncons h3
  obtain ⟨y4, r4, rfl, d4, h5⟩ := RdV.uncons h4
  obtain ⟨y5, r5, rfl, d5, h6⟩ := RdV.uncons h5
  obtain ⟨y6, r6, rfl, d6, h7⟩ := RdV.uncons h6
  obtain ⟨y7, r7, rfl, d7, h8⟩ := RdV.uncons h7
  obtain ⟨y8, r8, rfl, d8, h9⟩ := RdV.uncons h8
  obtain ⟨y9, r9, rfl, d9, h10⟩ := RdV.uncons h9
  obtain ⟨y10, r10, rfl, d10, h11⟩ := RdV.uncons h10
  obtain ⟨y11, r11, rfl, d11, h12⟩ := RdV.uncons h11
  obtain ⟨y12, r12, rfl, d12, h13⟩ := RdV.uncons h12
  obtain ⟨y13, r13, rfl, d13, h14⟩ := RdV.uncons h13
  obtain rfl := RdV.unnil h14
  obtain rfl := Rd.lit.1 d0
  obtain rfl := Rd.lit.1 d1
  obtain rfl := Rd.lit.1 d2
  obtain rfl := Rd.lit.1 d13
  exact ⟨y3, y4, y5, y6, y7, y8, y9, y10, y11, y12, rfl, d3, d4, d5, d6, d7, d8, d9, d10, d11, d12⟩
theorem DDesk.opn {B : Nat} {w : World} {x : DDesk} {vs : List Value} (h0 : RdV B w x.tr vs) : ∃ v3 v4 v5 v6 v7 v8 v9 v10 v11 v12 v14, vs = [.int .i64 x.plan.terrain.step, .int .i64 x.plan.terrain.width, .int .i64 x.plan.terrain.height, v3, v4, v5, v6, v7, v8, v9, v10, v11, v12, .int .i64 x.plan.day, v14] ∧ Rd B w (intsT x.plan.terrain.heights) v3 ∧ Rd B w (intsT x.plan.terrain.clutter) v4 ∧ Rd B w (DSite.sT x.plan.network.sites) v5 ∧ Rd B w (DSector.sT x.plan.network.sectors) v6 ∧ Rd B w (DAntenna.sT x.plan.network.antennas) v7 ∧ Rd B w (DRadio.sT x.plan.network.radios) v8 ∧ Rd B w (DBand.sT x.plan.bands) v9 ∧ Rd B w (DLicence.sT x.plan.licences) v10 ∧ Rd B w (DProtected.sT x.plan.protected_) v11 ∧ Rd B w (intssT x.plan.apart) v12 ∧ Rd B w (DRequest.sT x.requests) v14 := by
  obtain ⟨y0, r0, rfl, d0, h1⟩ := RdV.uncons h0
  obtain ⟨y1, r1, rfl, d1, h2⟩ := RdV.uncons h1
  obtain ⟨y2, r2, rfl, d2, h3⟩ := RdV.uncons h2
  obtain ⟨y3, r3, rfl, d3, h4⟩ := RdV.uncons h3
  obtain ⟨y4, r4, rfl, d4, h5⟩ := RdV.uncons h4
  obtain ⟨y5, r5, rfl, d5, h6⟩ := RdV.uncons h5
  obtain ⟨y6, r6, rfl, d6, h7⟩ := RdV.uncons h6
  obtain ⟨y7, r7, rfl, d7, h8⟩ := RdV.uncons h7
  obtain ⟨y8, r8, rfl, d8, h9⟩ := RdV.uncons h8
  obtain ⟨y9, r9, rfl, d9, h10⟩ := RdV.uncons h9
  obtain ⟨y10, r10, rfl, d10, h11⟩ := RdV.uncons h10
  obtain ⟨y11, r11, rfl, d11, h12⟩ := RdV.uncons h11
  obtain ⟨y12, r12, rfl, d12, h13⟩ := RdV.uncons h12
  obtain ⟨y13, r13, rfl, d13, h14⟩ := RdV.uncons h13
  obtain ⟨y14, r14, rfl, d14, h15⟩ := RdV.uncons h14
  obtain rfl := RdV.unnil h15
  obtain rfl := Rd.lit.1 d0
  obtain rfl := Rd.lit.1 d1
  obtain rfl := Rd.lit.1 d2
  obtain rfl := Rd.lit.1 d13
  exact ⟨y3, y4, y5, y6, y7, y8, y9, y10, y11, y12, y14, rfl, d3, d4, d5, d6, d7, d8, d9, d10, d11, d12, d14⟩
theorem DRaster.opn {B : Nat} {w : World} {x : DRaster} {vs : List Value} (h0 : RdV B w x.tr vs) : ∃ v3 v4, vs = [.int .i64 x.step, .int .i64 x.width, .int .i64 x.height, v3, v4] ∧ Rd B w (intsT x.server) v3 ∧ Rd B w (intsT x.level) v4 := by
  obtain ⟨y0, r0, rfl, d0, h1⟩ := RdV.uncons h0
  obtain ⟨y1, r1, rfl, d1, h2⟩ := RdV.uncons h1
  obtain ⟨y2, r2, rfl, d2, h3⟩ := RdV.uncons h2
  obtain ⟨y3, r3, rfl, d3, h4⟩ := RdV.uncons h3
  obtain ⟨y4, r4, rfl, d4, h5⟩ := RdV.uncons h4
  obtain rfl := RdV.unnil h5
  obtain rfl := Rd.lit.1 d0
  obtain rfl := Rd.lit.1 d1
  obtain rfl := Rd.lit.1 d2
  exact ⟨y3, y4, rfl, d3, d4⟩
end Go.Proofs.Ytpnllibboeeaaaa
