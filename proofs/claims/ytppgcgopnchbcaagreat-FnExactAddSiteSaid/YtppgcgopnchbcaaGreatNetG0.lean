/- Words for networks that are changed: parts of a network of one's own, rows of sectors. Plain lemmas; no program. -/
import Derived.Test.YtppgcgopnchbcaaGreatNetK
import Derived.Test.YtppgcgopnchbcaaGreatNetF
namespace Go.Proofs.YtppgcgopnchbcaaGreat
open Go.RowKit
set_option linter.unusedVariables false

theorem firstIdx_cases' {α : Type} (p : α → Bool) (l : List α) : (firstIdx' p l = -1 ∧ l.any p = false) ∨ ∃ i, ∃ h : i < l.length, firstIdx' p l = (i : Int) ∧ p l[i] = true ∧ (l.take i).any p = false := by
  unfold firstIdx'
  cases h : l.findIdx? p with
  | none =>
    left
    refine ⟨rfl, ?_⟩
    rw [List.any_eq_false]
    intro x hx
    have := List.findIdx?_eq_none_iff.1 h x hx
    simp [this]
  | some i =>
    right
    obtain ⟨hi, hp, hno⟩ := List.findIdx?_eq_some_iff_getElem.1 h
    refine ⟨i, hi, rfl, hp, ?_⟩
    rw [List.any_eq_false]
    intro x hx
    obtain ⟨j, hj, rfl⟩ := List.mem_take_iff_getElem.1 hx
    have := hno j (by omega)
    simpa using this
theorem ownV_zero (w : World) : OwnV w (DNetwork.tr ⟨[], [], [], []⟩) [.slice none 0 0, .slice none 0 0, .slice none 0 0, .slice none 0 0] [] := by
  have h : ∀ k, Own w (.sl k []) (.slice none 0 0) [] := fun k => ⟨Rep_sl.2 ⟨none, 0, 0, rfl, by simp, Nat.le_refl _, by unfold maxLen; omega, Or.inl ⟨rfl, rfl⟩⟩, List.nodup_nil, fun b h => by simp at h⟩
  exact OwnV.cons (f := []) (g := []) (h 4) (OwnV.cons (f := []) (g := []) (h 9) (OwnV.cons (f := []) (g := []) (h 4) (OwnV.cons (f := []) (g := []) (h 6) OwnV.nil (by simp)) (by simp)) (by simp)) (by simp)
theorem netSplit {w : World} {n : DNetwork} {v0 v1 v2 v3 : Value} {fp : List Nat} (h : OwnV w n.tr [v0, v1, v2, v3] fp) :
    ∃ f0 f1 f2 f3, (∀ x, x ∈ fp ↔ x ∈ f0 ∨ x ∈ f1 ∨ x ∈ f2 ∨ x ∈ f3) ∧ Own w (DSite.sT n.sites) v0 f0 ∧ Own w (DSector.sT n.sectors) v1 f1 ∧ Own w (DAntenna.sT n.antennas) v2 f2 ∧ Own w (DRadio.sT n.radios) v3 f3 ∧
      (∀ x ∈ f0, x ∉ f1 ∧ x ∉ f2 ∧ x ∉ f3) ∧ (∀ x ∈ f1, x ∉ f2 ∧ x ∉ f3) ∧ ∀ x ∈ f2, x ∉ f3 := by
  obtain ⟨f0, g0, rfl, O0, h, d0⟩ := OwnV.uncons (show OwnV w [DSite.sT n.sites, DSector.sT n.sectors, DAntenna.sT n.antennas, DRadio.sT n.radios] [v0, v1, v2, v3] fp from h)
  obtain ⟨f1, g1, rfl, O1, h, d1⟩ := h.uncons
  obtain ⟨f2, g2, rfl, O2, h, d2⟩ := h.uncons
  obtain ⟨f3, g3, rfl, O3, h, d3⟩ := h.uncons
  obtain rfl : g3 = [] := h.rep
  refine ⟨f0, f1, f2, f3, fun x => by simp, O0, O1, O2, O3, fun x hx => ?_, fun x hx => ?_, fun x hx => ?_⟩
  · have := d0 x hx; simp at this; exact ⟨this.1, this.2.1, this.2.2⟩
  · have := d1 x hx; simp at this; exact this
  · have := d2 x hx; simp at this; exact this
theorem netJoin {w : World} {n : DNetwork} {v0 v1 v2 v3 : Value} {f0 f1 f2 f3 : List Nat} (O0 : Own w (DSite.sT n.sites) v0 f0) (O1 : Own w (DSector.sT n.sectors) v1 f1) (O2 : Own w (DAntenna.sT n.antennas) v2 f2) (O3 : Own w (DRadio.sT n.radios) v3 f3)
    (d0 : ∀ x ∈ f0, x ∉ f1 ∧ x ∉ f2 ∧ x ∉ f3) (d1 : ∀ x ∈ f1, x ∉ f2 ∧ x ∉ f3) (d2 : ∀ x ∈ f2, x ∉ f3) : OwnV w n.tr [v0, v1, v2, v3] (f0 ++ (f1 ++ (f2 ++ (f3 ++ [])))) :=
  OwnV.cons O0 (OwnV.cons O1 (OwnV.cons O2 (OwnV.cons O3 OwnV.nil (by simp)) (by simpa using d2)) (fun x hx => by have := d1 x hx; simp [this])) (fun x hx => by have := d0 x hx; simp [this])
theorem Chg.setRow {fp : List Nat} {a w : World} (h : Chg fp a w) {b : Nat} (hb : b ∈ fp) (off : Nat) (vs : List Value) : Chg fp a (setRow w b off vs) := by
  induction vs generalizing w off with
  | nil => exact h
  | cons v vs ih => exact ih (h.setCell (p := ⟨b, off, none⟩) hb v) (off + 1)
/-- cells that hold plain values are stored anew -/
theorem Own.setLits {k : Nat} {post : List Tr} {b off n c : Nat} {fp : List Nat} : (us vs : List Value) → us.length = vs.length → (pre : List Tr) → (w : World) → Own w (.sl k (pre ++ (us.map .lit ++ post))) (.slice (some ⟨b, off, none⟩) n c) fp →
    Own (setRow w b (off + pre.length) vs) (.sl k (pre ++ (vs.map .lit ++ post))) (.slice (some ⟨b, off, none⟩) n c) fp := by
  intro us
  induction us with
  | nil => intro vs hl pre w h; cases vs with
    | nil => exact h
    | cons _ _ => simp at hl
  | cons u us ih =>
    intro vs hl pre w h
    cases vs with
    | nil => simp at hl
    | cons v vs =>
      obtain ⟨b2, off2, f2, n2, c2, hv2, _, _, _, hset⟩ := Own.litAt (v0 := u) (ts := pre) (us := us.map .lit ++ post) (by simpa using h)
      injection hv2 with hv3 _ _
      injection hv3 with hv3
      injection hv3 with hb3 ho3
      subst hb3 ho3
      have h1 := hset v
      have h2 := ih vs (by simpa using hl) (pre ++ [.lit v]) _ (by simpa using h1)
      have e : off + (pre ++ [Tr.lit v]).length = off + pre.length + 1 := by simp; omega
      rw [e] at h2
      show Own (setRow (w.setCell ⟨b, off + pre.length, none⟩ v) b (off + pre.length + 1) vs) _ _ _
      simpa using h2
theorem flat_split {α : Type} (g : α → List Tr) (l : List α) (k : Nat) (h : k < l.length) : l.flatMap g = (l.take k).flatMap g ++ (g l[k] ++ (l.drop (k + 1)).flatMap g) := by
  conv => lhs; rw [← List.take_append_drop k l, List.flatMap_append, ← List.getElem_cons_drop h, List.flatMap_cons]
theorem flat_set {α : Type} (g : α → List Tr) (l : List α) (k : Nat) (h : k < l.length) (x : α) : (l.set k x).flatMap g = (l.take k).flatMap g ++ (g x ++ (l.drop (k + 1)).flatMap g) := by
  rw [List.set_eq_take_append_cons_drop, if_pos h, List.flatMap_append, List.flatMap_cons]
def DSector.vals (x : DSector) : List Value := [.string x.name, .string x.site, .string x.antenna, .string x.radio, .string x.band, .int .i64 x.azimuth, .int .i64 x.tilt, .int .i64 x.above, .int .i64 x.channel]
theorem DSector.tr_vals (x : DSector) : x.tr = x.vals.map .lit := rfl
/-- a sector of a row of one's own: where it lies -/
theorem Own.elem9 {w : World} {l : List DSector} {a : Option Addr} {c : Nat} {fp : List Nat} (h : Own w (DSector.sT l) (.slice a l.length c) fp) {k : Nat} (hk : k < l.length) :
    ∃ b off, a = some ⟨b, off, none⟩ ∧ b ∈ fp ∧ w.cell? ⟨b, off + k * 9, none⟩ = some (.string l[k].name) ∧ w.cell? ⟨b, off + k * 9 + 1, none⟩ = some (.string l[k].site) ∧ w.cell? ⟨b, off + k * 9 + 2, none⟩ = some (.string l[k].antenna) ∧ w.cell? ⟨b, off + k * 9 + 3, none⟩ = some (.string l[k].radio) ∧ w.cell? ⟨b, off + k * 9 + 4, none⟩ = some (.string l[k].band) ∧
      w.cell? ⟨b, off + k * 9 + 5, none⟩ = some (.int .i64 l[k].azimuth) ∧ w.cell? ⟨b, off + k * 9 + 6, none⟩ = some (.int .i64 l[k].tilt) ∧ w.cell? ⟨b, off + k * 9 + 7, none⟩ = some (.int .i64 l[k].above) ∧ w.cell? ⟨b, off + k * 9 + 8, none⟩ = some (.int .i64 l[k].channel) ∧ ∀ i, w.frozen? ⟨b, i, none⟩ = false := by
  obtain ⟨a', n', c', hv, hl, hn, hc, hh⟩ := Rep_sl.1 h.rep
  injection hv with e1 e2 e3
  subst e1 e2 e3
  rcases hh with ⟨he, _⟩ | ⟨b, off, f, hne, ha, hfp, hr⟩
  · have := congrArg List.length he
    rw [flat_length DSector.tr 9 DSector.tr_len, List.length_nil] at this
    omega
  · have rd : Rd (w.heap.size + b + 1 + fp.sum) w (DSector.sT l) (.slice a l.length c) := ⟨fp, h.rep, fun y hy => by
      have : y ≤ fp.sum := by
        clear h hfp hr
        induction fp with
        | nil => simp at hy
        | cons z zs ih =>
          rcases List.mem_cons.1 hy with rfl | hy
          · simp
          · have := ih hy; simp; omega
      omega⟩
    obtain ⟨a2, c2, e, _, _, hcl⟩ := DSector.rd rd
    injection e with e1 _ e3
    subst e1 e3
    obtain ⟨b2, off2, e, _, hat⟩ := hcl (by omega)
    obtain ⟨s0, s1, s2, s3, s4, s5, s6, s7, s8⟩ := hat k hk
    rw [ha] at e
    injection e with e
    injection e with e1 e2
    subst e1 e2
    exact ⟨b, off, ha, by rw [hfp]; simp, s0, s1, s2, s3, s4, s5, s6, s7, s8, fun i => h.free b (by rw [hfp]; simp) i⟩
theorem Own.set9 {w : World} {l : List DSector} {b off c : Nat} {fp : List Nat} (h : Own w (DSector.sT l) (.slice (some ⟨b, off, none⟩) l.length c) fp) {k : Nat} (hk : k < l.length) (x : DSector) :
    Own (setRow w b (off + k * 9) [.string x.name, .string x.site, .string x.antenna, .string x.radio, .string x.band, .int .i64 x.azimuth, .int .i64 x.tilt, .int .i64 x.above, .int .i64 x.channel]) (DSector.sT (l.set k x)) (.slice (some ⟨b, off, none⟩) l.length c) fp := by
  have h1 : Own w (.sl 9 ((l.take k).flatMap DSector.tr ++ ((l[k].vals).map .lit ++ (l.drop (k + 1)).flatMap DSector.tr))) (.slice (some ⟨b, off, none⟩) l.length c) fp := by
    rw [← DSector.tr_vals, ← flat_split DSector.tr l k hk]; exact h
  have h2 := Own.setLits l[k].vals x.vals rfl _ w h1
  rw [flat_length DSector.tr 9 DSector.tr_len, List.length_take, Nat.min_eq_left (by omega), ← DSector.tr_vals, ← flat_set DSector.tr l k hk x] at h2
  exact h2
end Go.Proofs.YtppgcgopnchbcaaGreat
