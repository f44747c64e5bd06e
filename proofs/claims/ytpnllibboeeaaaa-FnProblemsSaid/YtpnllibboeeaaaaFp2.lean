/- Contract: a drawn problem of the reference: it is valid. Condition: a place in the source that is not too great. -/
import Derived.Test.YtpnllibboeeaaaaFp0
import Derived.Test.YtpnllibboeeaaaaFp1
import Derived.Test.YtpnllibboeeaaaaTwo
import Derived.Test.YtpnllibboeeaaaaOrd
namespace Go.Proofs.Ytpnllibboeeaaaa
open Go.RowKit
set_option linter.unusedVariables false
set_option linter.unusedSimpArgs false

theorem growSlice {w : World} {base E size n : Nat} {v : Value} {ts : List Tr} {f : List Nat} (h : Grow w base E size v n ts f) : ∃ a c, v = .slice a n c := by
  obtain ⟨xs, ho, _⟩ := h.own
  obtain ⟨a, c, e, _⟩ := ownsRow_slice ho
  exact ⟨a, c, e⟩
theorem own_rowI (w : World) (E : Nat) (cs : Array Value) (l : List Int) (h : cs.toList = l.map fun n => .int .i64 n) (h0 : 1 ≤ l.length) (hm : l.length ≤ maxLen) :
    Own (w.alloc (.cells cs E)) (intsT l) (.slice (some ⟨w.heap.size, 0, none⟩) l.length l.length) [w.heap.size] := by
  have hk := bkN w cs E
  refine ⟨Rep_sl.2 ⟨_, l.length, l.length, rfl, by simp, Nat.le_refl _, hm, Or.inr ⟨w.heap.size, 0, [], by intro e; rw [List.map_eq_nil_iff] at e; rw [e] at h0; simp at h0, rfl, rfl, ?_⟩⟩, by simp, fun y hy i => ?_⟩
  · have := Reps.lits (w := w.alloc (.cells cs E)) (l.map fun n => .int .i64 n) w.heap.size 0 (fun i hi => by
      rw [Nat.zero_add, cell_of_row' hk i, ← Array.getElem?_toList, h, List.getElem?_eq_getElem hi])
    rw [List.map_map] at this
    exact this
  · simp at hy; subst hy; exact bkF hk i
theorem zeros_list (n : Nat) : (madeCells (Value.int .i64 0).cells (n * 1)).toList = (List.replicate n (0 : Int)).map fun n => .int .i64 n := by
  rw [Nat.mul_one, show (Value.int .i64 0).cells = #[.int .i64 0] from rfl, toList_madeCells_one, List.map_replicate]
theorem Chg.setNew {fp : List Nat} {a w : World} (h : Chg fp a w) {p : Addr} (hp : a.heap.size ≤ p.block) (u : Value) : Chg fp a (w.setCell p u) :=
  ⟨h.os, h.tape, h.output, by rw [size_setCell]; exact h.size, fun x hx hn => (Below.heap_setCell w p u x (by omega)).trans (h.block x hx hn)⟩
theorem Chg.thenB {fp : List Nat} {a b c : World} {B : Nat} (h : Chg fp a b) (k : Below B b c) (hB : a.heap.size ≤ B) : Chg fp a c := ⟨k.os.trans h.os, k.tape.trans h.tape, k.output.trans h.output, Nat.le_trans h.size k.size, fun x hx hn => (k.block x (by omega)).trans (h.block x hx hn)⟩
theorem RepV.one {w : World} {t : Tr} {v : Value} {fp : List Nat} (h : Rep w t v fp) : RepV w [t] [v] fp := ⟨fp, [], h, rfl, (List.append_nil _).symm⟩
theorem info28 : (Try.prog.info? 28).map (fun i => (i.zero, i.size, i.bytes)) = some (some (.slice none 0 0), 1, 24) := by kernel_rfl
theorem sumLen_bd (m : Nat) : (l : List (List Int)) → (∀ r ∈ l, r.length ≤ m) → sumLen l ≤ l.length * m
  | [], _ => by simp [sumLen]
  | r :: l, h => by
    have h1 := sumLen_bd m l (fun x hx => h x (by simp [hx]))
    have h2 := h r (by simp)
    unfold sumLen at h1 ⊢
    rw [List.map_cons, List.sum_cons, List.length_cons, Nat.succ_mul]
    omega
theorem ValidP.siz {p : DProblem} (h : ValidP p) : Go.Proofs.Ytpnllibboeeaaaa.siz (intssT p.domains) ≤ 1048576 ∧ Go.Proofs.Ytpnllibboeeaaaa.siz (intssT p.apart) ≤ 1048576 := by
  have n2 := h.n2
  have hl := h.len
  have a := sumLen_bd 32 p.domains (fun r hr => by
    obtain ⟨i, hi, rfl⟩ := List.getElem_of_mem hr
    rw [row_eq hi]; exact (domB_bd (h.dom i hi)).2.1)
  have b := sumLen_bd 24 p.apart (fun r hr => by
    obtain ⟨i, hi, rfl⟩ := List.getElem_of_mem hr
    rw [row_eq hi, (h.rows i (by omega)).len]; exact n2)
  rw [siz_intss, siz_intss]
  have : p.domains.length * 32 ≤ 24 * 32 := Nat.mul_le_mul_right _ n2
  have : p.apart.length * 24 ≤ 24 * 24 := Nat.mul_le_mul_right _ (by omega)
  omega
/-- the constraints at the start -/
theorem zeros_ok (n : Nat) : ∀ a, a < n → RowOk (List.replicate n (List.replicate n 0)) n a := by
  have hr : ∀ a, a < n → row (List.replicate n (List.replicate n (0 : Int))) a = List.replicate n 0 := fun a ha => by unfold row; rw [List.getD_eq_getElem?_getD, List.getElem?_replicate, if_pos ha]; rfl
  have hz : ∀ a k, a < n → k < n → ap (List.replicate n (List.replicate n (0 : Int))) a k = 0 := fun a k ha hk => by
    unfold ap gi; rw [hr a ha, List.getD_eq_getElem?_getD, List.getElem?_replicate, if_pos hk]; rfl
  intro a ha
  refine ⟨by rw [hr a ha, List.length_replicate], fun k hk => by rw [hz a k ha hk]; rfl, hz a a ha ha, fun k hk => by rw [hz a k ha (by omega), hz k a (by omega) ha]⟩
/-- the state of the second part: the domains stay, the constraints are set pair by pair -/
structure DrawSt (w0 wr : World) (H R b n lim Z T : Nat) (a0 a1 : Option Addr) (c0 c1 : Nat) (ds M : List (List Int)) (p0 p1 : List Nat) : Prop where
  len : M.length = n
  rows : ∀ a, a < n → RowOk M n a
  kh : wr.heap[H]? = some (.cells #[.slice a0 n c0, .slice a1 n c1] T (0, 0))
  kr : wr.heap[R]? = some (.cells #[.slice none 0 0, .slice none 0 0] T (0, 0))
  o0 : Own wr (intssT ds) (.slice a0 n c0) p0
  o1 : Own wr (intssT M) (.slice a1 n c1) p1
  src : ∃ k', k' ≤ lim ∧ Src wr b k'
  chg : Chg [b] w0 wr
  sz : Z ≤ wr.heap.size
  i0 : In (H + 1) Z p0
  i1 : In (H + 1) Z p1
  dj : ∀ y ∈ p0, y ∉ p1
  geo : b < w0.heap.size ∧ w0.heap.size ≤ R ∧ R < H ∧ H < Z
theorem DrawSt.call {w0 wr w' : World} {H R b n lim lim' Z T : Nat} {a0 a1 : Option Addr} {c0 c1 : Nat} {ds M : List (List Int)} {p0 p1 : List Nat} (h : DrawSt w0 wr H R b n lim Z T a0 a1 c0 c1 ds M p0 p1) (hc : Chg [b] wr w') (hs : ∃ k', k' ≤ lim' ∧ Src w' b k') :
    DrawSt w0 w' H R b n lim' Z T a0 a1 c0 c1 ds M p0 p1 := by
  obtain ⟨g1, g2, g3, g4⟩ := h.geo
  have hz := h.sz
  have hk : ∀ y, y < Z → b < y → w'.heap[y]? = wr.heap[y]? := fun y h1 h2 => hc.block y (by omega) (by simp; omega)
  exact ⟨h.len, h.rows, (hk H g4 (by omega)).trans h.kh, (hk R (by omega) (by omega)).trans h.kr, h.o0.frame (fun y hy => hk y (h.i0 y hy).2 (by have := (h.i0 y hy).1; omega)), h.o1.frame (fun y hy => hk y (h.i1 y hy).2 (by have := (h.i1 y hy).1; omega)), hs, h.chg.trans hc, Nat.le_trans hz hc.size, h.i0, h.i1, h.dj, h.geo⟩
theorem DrawSt.set {w0 wr : World} {H R b n lim Z T : Nat} {a0 a1 : Option Addr} {c0 c1 : Nat} {ds M : List (List Int)} {p0 p1 : List Nat} (h : DrawSt w0 wr H R b n lim Z T a0 a1 c0 c1 ds M p0 p1) {i q : Nat} (hi : i < n) (hq : q < n) (hiq : i ≠ q) {d : Int} (hd : inB d 0 100 = true) :
    ∃ b1 o1 b2 o2 c2 b3 o3 c3, a1 = some ⟨b1, o1, none⟩ ∧ wr.cell? ⟨H, 1, none⟩ = some (.slice (some ⟨b1, o1, none⟩) n c1) ∧ wr.cell? ⟨b1, o1 + i, none⟩ = some (.slice (some ⟨b2, o2, none⟩) n c2) ∧ (∃ x, wr.cell? ⟨b2, o2 + q, none⟩ = some (.int .i64 x)) ∧ wr.frozen? ⟨b2, o2 + q, none⟩ = false ∧
      (wr.setCell ⟨b2, o2 + q, none⟩ (.int .i64 d)).cell? ⟨H, 1, none⟩ = some (.slice (some ⟨b1, o1, none⟩) n c1) ∧ (wr.setCell ⟨b2, o2 + q, none⟩ (.int .i64 d)).cell? ⟨b1, o1 + q, none⟩ = some (.slice (some ⟨b3, o3, none⟩) n c3) ∧ (∃ x, (wr.setCell ⟨b2, o2 + q, none⟩ (.int .i64 d)).cell? ⟨b3, o3 + i, none⟩ = some (.int .i64 x)) ∧ (wr.setCell ⟨b2, o2 + q, none⟩ (.int .i64 d)).frozen? ⟨b3, o3 + i, none⟩ = false ∧
      DrawSt w0 ((wr.setCell ⟨b2, o2 + q, none⟩ (.int .i64 d)).setCell ⟨b3, o3 + i, none⟩ (.int .i64 d)) H R b n lim Z T a0 a1 c0 c1 ds (sym2 M i q d) p0 p1 := by
  obtain ⟨g1, g2, g3, g4⟩ := h.geo
  have hz := h.sz
  have hl := h.len
  have hrl : ∀ a, a < n → (row M a).length = n := fun a ha => (h.rows a ha).len
  obtain ⟨b1, o1, n1, e1, b2, o2, c2, hv, s1, s2, f2, m2, m1, _, hset⟩ := h.o1.set2 i q (by omega) (by rw [hrl i hi]; exact hq)
  injection hv with v1 v2 v3
  subst v1 v2 v3
  have O2 := hset d
  have hl2 : ∀ a, (row (set2 M i q d) a).length = (row M a).length := row_set2_len M i q d (by omega)
  obtain ⟨b1', o1', n1', e1', b3, o3, c3, hv, t1, t2, f3, m3, _, _, hset3⟩ := O2.set2 q i (by rw [set2_len]; omega) (by rw [hl2, hrl q hq]; exact hi)
  injection hv with v1 v2 v3
  injection v1 with v1
  injection v1 with v1 v4
  subst v1 v4 v2 v3
  have O3 := hset3 d
  rw [hrl i hi] at s1
  rw [hl2, hrl q hq] at t1
  have r2 := h.i1 b2 m2
  have r3 := h.i1 b3 m3
  have kh := h.kh
  have kh1 : (wr.setCell ⟨b2, o2 + q, none⟩ (.int .i64 d)).heap[H]? = _ := bkO kh (by show H ≠ b2; omega) _
  have kh2 : ((wr.setCell ⟨b2, o2 + q, none⟩ (.int .i64 d)).setCell ⟨b3, o3 + i, none⟩ (.int .i64 d)).heap[H]? = _ := bkO kh1 (by show H ≠ b3; omega) _
  have kr1 : (wr.setCell ⟨b2, o2 + q, none⟩ (.int .i64 d)).heap[R]? = _ := bkO h.kr (by show R ≠ b2; omega) _
  have kr2 : ((wr.setCell ⟨b2, o2 + q, none⟩ (.int .i64 d)).setCell ⟨b3, o3 + i, none⟩ (.int .i64 d)).heap[R]? = _ := bkO kr1 (by show R ≠ b3; omega) _
  refine ⟨b1, o1, b2, o2, c2, b3, o3, c3, rfl, bkC kh 1 rfl, s1, ⟨_, s2⟩, f2 _, bkC kh1 1 rfl, t1, ⟨_, t2⟩, f3 _, ⟨by rw [sym2_len]; exact hl, sym2_rows hl h.rows hi hq hiq hd, kh2, kr2, ?_, O3, ?_, (h.chg.setNew (by show w0.heap.size ≤ b2; omega) _).setNew (by show w0.heap.size ≤ b3; omega) _, by simp only [size_setCell]; exact hz, h.i0, h.i1, h.dj, h.geo⟩⟩
  · refine h.o0.frame (fun y hy => ?_)
    rw [Below.heap_setCell _ _ _ _ (show y ≠ b3 from fun e => h.dj y hy (e ▸ m3)), Below.heap_setCell _ _ _ _ (show y ≠ b2 from fun e => h.dj y hy (e ▸ m2))]
  · obtain ⟨k', hk', hs⟩ := h.src
    refine ⟨k', hk', hs.below (B := H) (by omega) (((Below.refl _ _).setCell (by show H ≤ b2; omega) _).setCell (by show H ≤ b3; omega) _)⟩
def ProbP (w : World) (e : Ending) (w' : World) (p : DProblem) : Prop :=
  ∃ a0 c0 a1 c1 f0 f1, e = .returned (.agg #[.slice a0 p.domains.length c0, .slice a1 p.apart.length c1]) ∧ Own w' (intssT p.domains) (.slice a0 p.domains.length c0) f0 ∧ Own w' (intssT p.apart) (.slice a1 p.apart.length c1) f1 ∧ In w.heap.size w'.heap.size f0 ∧ In w.heap.size w'.heap.size f1 ∧ ∀ y ∈ f0, y ∉ f1
set_option maxHeartbeats 8000000 in
set_option maxRecDepth 100000 in
theorem l17Draw_any (b k : Nat) (w : World) (h : Src w b k) (hk : k ≤ 1099510000000) :
    Calls Try.prog 15 #[.pointer (some ⟨b, 0, none⟩)] w fun e w' => ∃ p : DProblem, ValidP p ∧ p.domains.length ≤ 6 ∧ ProbP w e w' p ∧ Chg [b] w w' := by
  obtain ⟨i0, hi0, hz0, hz1, hz2⟩ := info_partsI info28
  obtain ⟨j0, hj0, hy0, hy1, hy2⟩ := info_partsI infoI64
  have yb := h.lt
  have HPK := Lib.hid fun (k' : Nat) (n : Int) (W : World) (h1 : Src W b k') (h2 : k' ≤ k + 100000) (h3 : 1 ≤ n) (h4 : n ≤ 100) => pick_pos b k' n W h1 (by omega) h3 (by omega)
  have HON := Lib.hid fun (k' : Nat) (W : World) (h1 : Src W b k') (h2 : k' ≤ k + 100000) => one_any b k' 2 W h1 (by omega) ⟨by omega, by omega⟩
  have HDD := Lib.hid fun (k' : Nat) (W : World) (h1 : Src W b k') (h2 : k' ≤ k + 100000) => l17DrawDomain_any b k' W h1 (by omega)
  have b0 : Below w.heap.size w (w.alloc (.cells #[.slice none 0 0, .slice none 0 0] 26)) := (Below.refl _ _).alloc (Nat.le_refl _) _
  have HS0 : Hid (Src (w.alloc (.cells #[.slice none 0 0, .slice none 0 0] 26)) b k) := h.below h.lt b0
  have KR0 := Lib.hid (bkN w #[.slice none 0 0, .slice none 0 0] 26)
  have zz0 : (w.alloc (.cells #[.slice none 0 0, .slice none 0 0] 26)).heap.size = w.heap.size + 1 := by simp
  have C0 : Hid (Chg [b] w (w.alloc (.cells #[.slice none 0 0, .slice none 0 0] 26))) := Chg.of_below b0
  clear h b0
  go_enter Try.func15, Try.ntmps15
  go_wp2_with (fail)
  go_at_call 30
  refine (HPK.out k 6 _ HS0.out (by omega) (by omega) (by omega)).mono ?_
  rintro e w1 ⟨⟨x, hx0, hx1, rfl⟩, k1, g1, g2, S1, C1⟩
  have z1 := C1.size
  have KR1 : Hid (w1.heap[w.heap.size]? = some (.cells #[.slice none 0 0, .slice none 0 0] 26 (0, 0))) := (C1.block _ (by omega) (by simp; omega)).trans KR0.out
  have HS1 := Lib.hid S1
  have HC1 := Lib.hid (C0.out.trans C1)
  clear S1 C1 HS0 KR0 C0
  have bP : Below w1.heap.size w1 (w1.alloc (.cells #[.slice none 0 0, .slice none 0 0] 26)) := (Below.refl _ _).alloc (Nat.le_refl _) _
  have HSP : Hid (Src (w1.alloc (.cells #[.slice none 0 0, .slice none 0 0] 26)) b k1) := HS1.out.below HS1.out.lt bP
  have HCP : Hid (Chg [b] w (w1.alloc (.cells #[.slice none 0 0, .slice none 0 0] 26))) := HC1.out.alloc _
  have KRP : Hid ((w1.alloc (.cells #[.slice none 0 0, .slice none 0 0] 26)).heap[w.heap.size]? = some (.cells #[.slice none 0 0, .slice none 0 0] 26 (0, 0))) := bkB KR1.out bP (by omega)
  have KHP := Lib.hid (bkN w1 #[.slice none 0 0, .slice none 0 0] 26)
  have zP : (w1.alloc (.cells #[.slice none 0 0, .slice none 0 0] 26)).heap.size = w1.heap.size + 1 := by simp
  clear bP HS1 HC1 KR1
  obtain ⟨n0, rfl⟩ := Int.eq_ofNat_of_zero_le hx0
  go_wp2_with (fail)
  rw [show (1 : Int) + (n0 : Int) = ((n0 + 1 : Nat) : Int) by omega]
  have hn1 : 1 ≤ n0 + 1 := by omega
  have hn6 : n0 + 1 ≤ 6 := by omega
  clear hx0 hx1
  generalize n0 + 1 = n at *
  have Hn1 := Lib.hid hn1
  have hnl : (n : Int) ≤ 6 := by omega
  obtain ⟨Z, hZ, hmk_⟩ : ∃ Z : Array Value, Z.toList = ((List.replicate n (0 : Int)).map fun n => .int .i64 n) ∧ ∀ W : World, (Instr.makeSlice 28 (.int .i64 (n : Int)) (.int .i64 (n : Int))).run Try.prog W = .ok (.slice (some ⟨W.heap.size, 0, none⟩) n n) (W.alloc (.cells Z 2)) := by
    refine ⟨madeCells (Value.int .i64 0).cells (n * 1), zeros_list n, fun W => ?_⟩
    have := run_make_rowN (P := Try.prog) 28 2 j0 _ Try.underlying28 hj0 hy0 .i64 .i64 n n (Nat.le_refl _) (by rw [hy2]; omega) (by omega) W
    rw [hy1] at this
    exact this
  have HZ := Lib.hid hZ
  clear hZ hj0 hy0 hy1 hy2
  go_loopw [5] (fun iv wr => ∃ (j : Nat) (ds ms : List (List Int)) (a0 a1 : Option Addr) (c0 c1 k' : Nat) (f0 f1 : List Nat), j ≤ n ∧ iv = .int .i64 (j : Int) ∧ ds.length = j ∧ ms = List.replicate j (List.replicate n 0) ∧ (∀ d ∈ ds, Dom12 d 9) ∧ wr.heap[w1.heap.size]? = some (.cells #[.slice a0 ds.length c0, .slice a1 ms.length c1] 26 (0, 0)) ∧ wr.heap[w.heap.size]? = some (.cells #[.slice none 0 0, .slice none 0 0] 26 (0, 0)) ∧ Two wr (w1.heap.size + 1) 28 (.slice a0 ds.length c0) (.slice a1 ms.length c1) ds ms f0 f1 ∧ Src wr b k' ∧ k' ≤ k + 2 + 40 * j ∧ Chg [b] w wr ∧ w1.heap.size + 1 ≤ wr.heap.size) (fun iv wr => n - (intOf iv).toNat)
  case atStart => exact ⟨0, [], [], none, none, 0, 0, k1, [], [], Nat.zero_le _, rfl, rfl, rfl, fun d hd => by simp at hd, KHP.out, KRP.out, Two.start _ _ _, HSP.out, by omega, HCP.out, by omega⟩
  case round =>
    clear HSP HCP KRP KHP zP
    obtain ⟨j, ds, ms, a0, a1, c0, c1, k', f0, f1, hj, rfl, hdl, hms, hdd, hkh, hkr, htw, S3, hk3, C3, zr⟩ := hrel
    have hml : ms.length = j := by rw [hms, List.length_replicate]
    have HMS := Lib.hid hms
    have HDS := Lib.hid hdd
    have HDL := Lib.hid hdl
    have HML := Lib.hid hml
    have hdl1 : ds.length ≤ 6 := by omega
    have hml1 : ms.length ≤ 6 := by omega
    have KH := Lib.hid hkh
    have KR := Lib.hid hkr
    have TW := Lib.hid htw
    have HS := Lib.hid S3
    have HC := Lib.hid C3
    have zw := C3.size
    clear hdl hml hms hdd hkh hkr htw S3 C3
    by_cases hlt : j < n
    · have hji : (j : Int) < (n : Int) := by omega
      have KHd : Hid (wr.drew.heap[w1.heap.size]? = some (.cells #[.slice a0 ds.length c0, .slice a1 ms.length c1] 26 (0, 0))) := KH.out
      have KRd : Hid (wr.drew.heap[w.heap.size]? = some (.cells #[.slice none 0 0, .slice none 0 0] 26 (0, 0))) := KR.out
      have TWd := Lib.hid (TW.out.below (below_drew1 wr))
      have HSd := Lib.hid (HS.out.below HS.out.lt (below_drew1 wr))
      have HCd := Lib.hid HC.out.drew
      have zd : wr.heap.size ≤ wr.drew.heap.size := Nat.le_refl _
      clear KH KR TW HS HC
      go_wp2_with (fail)
      refine wp_region_ord 5 [(0, true), (1, true), (2, true), (3, false), (4, false)] (fun W => W.cell? ⟨w1.heap.size, 0, none⟩ = some (.slice a0 ds.length c0)) (by kernel_rfl) (by kernel_rfl) (bkC KHd.out 0 rfl) (fun hHeld => ?_)
      generalize wr.drew = Y0 at *
      clear hHeld
      refine wpOrd_read (v := ?_) rfl (fun _ _ _ h => h) ?_ ?_
      rotate_left
      · (intro W hSW; (try dsimp only at hSW); (go_simp <;> with_reducible rfl))
      (try simp only [Act.put, List.setIfInBounds_toArray, List.set_cons_zero, List.set_cons_succ])
      refine wpOrd_read (v := ?_) rfl (fun _ _ _ h => h) ?_ ?_
      rotate_left
      · (intro W hSW; (try dsimp only at hSW); (go_simp <;> with_reducible rfl))
      (try simp only [Act.put, List.setIfInBounds_toArray, List.set_cons_zero, List.set_cons_succ])
      refine wpOrd_read (v := ?_) rfl (fun _ _ _ h => h) ?_ ?_
      rotate_left
      · (intro W hSW; (try dsimp only at hSW); (go_simp <;> with_reducible rfl))
      (try simp only [Act.put, List.setIfInBounds_toArray, List.set_cons_zero, List.set_cons_succ])
      refine wpOrd_step rfl (fun K hK => ?_)
      go_simp
      refine (HDD.out k' Y0 HSd.out (by omega)).mono ?_
      rintro e Y1 ⟨d, ad, cd, fd, hd, rfl, od, id_, k2, q1, q2, S2, C2⟩
      have KH1 : Hid (Y1.heap[w1.heap.size]? = some (.cells #[.slice a0 ds.length c0, .slice a1 ms.length c1] 26 (0, 0))) := (C2.block _ (by omega) (by simp; omega)).trans KHd.out
      have KR1 : Hid (Y1.heap[w.heap.size]? = some (.cells #[.slice none 0 0, .slice none 0 0] 26 (0, 0))) := (C2.block _ (by omega) (by simp; omega)).trans KRd.out
      refine hK.out _ _ (bkC KH1.out 0 rfl) ?_
      clear hK K
      (try simp only [Act.put, List.setIfInBounds_toArray, List.set_cons_zero, List.set_cons_succ])
      have HD := Lib.hid hd
      have OD := Lib.hid od
      have TW1 := Lib.hid (TWd.out.chg C2 (fun y hy => by simp at hy; omega))
      have FR : Hid (∀ y ∈ fd, ¬ ((Value.slice a0 ds.length c0).ownBlock = some y ∨ y ∈ f0) ∧ ¬ ((Value.slice a1 ms.length c1).ownBlock = some y ∨ y ∈ f1)) := fun y hy => TWd.out.fresh (id_ y hy).1
      have HS1 := Lib.hid S2
      have HC1 := Lib.hid (HCd.out.trans C2)
      have ID : Hid (In (w1.heap.size + 1) Y1.heap.size fd) := id_.mono (by omega) (Nat.le_refl _)
      have z1 := C2.size
      clear hd od id_ S2 C2 KHd KRd TWd HSd HCd
      have bA : Below Y1.heap.size Y1 (Y1.alloc (.cells #[.slice ad d.length cd] 28)) := (Below.refl _ _).alloc (Nat.le_refl _) _
      refine wpOrd_step rfl (fun K hK => ?_)
      go_simp
      refine hK.out _ _ (bkC (bkB KH1.out bA (by omega)) 0 rfl) ?_
      clear hK K
      (try simp only [Act.put, List.setIfInBounds_toArray, List.set_cons_zero, List.set_cons_succ])
      clear bA
      refine wpOrd_nil ?_
      simp only [List.drop_succ_cons, List.drop_zero]
      go_wp2_with (at_builtin; refine wpList_append1 rfl (.tmp 19) (.tmp 22) _ rfl (w1.heap.size + 1) 28 i0 _ 1 24 Try.underlying24 hi0 hz0 hz1 hz2 rfl (by omega) _ _ _ f0 rfl TW1.out.g0 [.slice ad d.length cd] [intsT d] fd rfl 1 rfl (fun u hu => by simp at hu; subst hu; rfl) (RepV.one OD.out.rep) OD.out.nd OD.out.free (w1.heap.size + 1) TW1.out.i0 ID.out (fun y h1 h2 => (FR.out y h1).1 (Or.inr h2)) (fun y h1 h2 => (FR.out y h2).1 (Or.inl h1)) (by unfold maxLen; omega) (by omega) (by omega) ?_; intro v4 w2 hgn; obtain ⟨a4, c4, e4⟩ := growSlice hgn.grow; subst e4; have kh2 := (hgn.keep (w1.heap.size) (by omega) (fun e => by have := (TW1.out.lt0 (Or.inl e)).1; omega)).trans KH1.out; have KH2 := Lib.hid kh2; have m0 := bkC kh2 0 rfl; have mz := bkF kh2 0; have HGN := Lib.hid hgn; clear hgn kh2)
      have z2 := HGN.out.size
      have KH3 : Hid ((w2.setCell ⟨w1.heap.size, 0, none⟩ (.slice a4 (ds.length + 1) c4)).heap[w1.heap.size]? = some (.cells #[.slice a4 (ds.length + 1) c4, .slice a1 ms.length c1] 26 (0, 0))) := by
        show _ = _
        have := bkS KH2.out 0 (.slice a4 (ds.length + 1) c4)
        simpa using this
      have KR3 : Hid ((w2.setCell ⟨w1.heap.size, 0, none⟩ (.slice a4 (ds.length + 1) c4)).heap[w.heap.size]? = some (.cells #[.slice none 0 0, .slice none 0 0] 26 (0, 0))) := bkO ((HGN.out.below.block _ (by omega)).trans KR1.out) (by show w.heap.size ≠ w1.heap.size; omega) _
      have TW3 : Hid (Two (w2.setCell ⟨w1.heap.size, 0, none⟩ (.slice a4 (ds.length + 1) c4)) (w1.heap.size + 1) 28 (.slice a4 (ds.length + 1) c4) (.slice a1 ms.length c1) (ds ++ [d]) ms (f0 ++ fd) f1) := (TW1.out.app0 (lo := 0) HGN.out ID.out (fun y hy => (FR.out y hy).2)).frame (by rw [size_setCell]; exact Nat.le_refl _) (fun y hy _ => Below.heap_setCell _ _ _ _ (by show y ≠ w1.heap.size; omega))
      have bl3 : Below w1.heap.size Y1 (w2.setCell ⟨w1.heap.size, 0, none⟩ (.slice a4 (ds.length + 1) c4)) := (HGN.out.below.mono (by omega)).setCell (by show w1.heap.size ≤ w1.heap.size; omega) _
      have HS3 : Hid (Src (w2.setCell ⟨w1.heap.size, 0, none⟩ (.slice a4 (ds.length + 1) c4)) b k2) := HS1.out.below (by omega) bl3
      have HC3 : Hid (Chg [b] w (w2.setCell ⟨w1.heap.size, 0, none⟩ (.slice a4 (ds.length + 1) c4))) := HC1.out.thenB bl3 (by omega)
      have z3 : (w2.setCell ⟨w1.heap.size, 0, none⟩ (.slice a4 (ds.length + 1) c4)).heap.size = w2.heap.size := size_setCell _ _ _
      clear HGN KH2 KR1 TW1 HS1 HC1 bl3 m0 mz OD ID FR KH1
      generalize (w2.setCell ⟨w1.heap.size, 0, none⟩ (.slice a4 (ds.length + 1) c4)) = w3 at *
      have KHd : Hid (w3.drew.heap[w1.heap.size]? = some (.cells #[.slice a4 (ds.length + 1) c4, .slice a1 ms.length c1] 26 (0, 0))) := KH3.out
      have KRd : Hid (w3.drew.heap[w.heap.size]? = some (.cells #[.slice none 0 0, .slice none 0 0] 26 (0, 0))) := KR3.out
      have TWd := Lib.hid (TW3.out.below (below_drew1 w3))
      have HSd := Lib.hid (HS3.out.below HS3.out.lt (below_drew1 w3))
      have HCd := Lib.hid HC3.out.drew
      have zd3 : w3.heap.size = w3.drew.heap.size := rfl
      clear KH3 KR3 TW3 HS3 HC3
      refine wp_region_ord 5 [(0, true), (1, true), (2, true), (3, false), (4, false)] (fun W => W.cell? ⟨w1.heap.size, 1, none⟩ = some (.slice a1 ms.length c1)) (by kernel_rfl) (by kernel_rfl) (bkC KHd.out 1 rfl) (fun hHeld => ?_)
      generalize w3.drew = Y2 at *
      clear hHeld
      refine wpOrd_read (v := ?_) rfl (fun _ _ _ h => h) ?_ ?_
      rotate_left
      · (intro W hSW; (try dsimp only at hSW); (go_simp <;> with_reducible rfl))
      (try simp only [Act.put, List.setIfInBounds_toArray, List.set_cons_zero, List.set_cons_succ])
      refine wpOrd_read (v := ?_) rfl (fun _ _ _ h => h) ?_ ?_
      rotate_left
      · (intro W hSW; (try dsimp only at hSW); (go_simp <;> with_reducible rfl))
      (try simp only [Act.put, List.setIfInBounds_toArray, List.set_cons_zero, List.set_cons_succ])
      refine wpOrd_read (v := ?_) rfl (fun _ _ _ h => h) ?_ ?_
      rotate_left
      · (intro W hSW; (try dsimp only at hSW); (go_simp <;> with_reducible rfl))
      (try simp only [Act.put, List.setIfInBounds_toArray, List.set_cons_zero, List.set_cons_succ])
      have bM : Below Y2.heap.size Y2 (Y2.alloc (.cells Z 2)) := (Below.refl _ _).alloc (Nat.le_refl _) _
      have KHm : Hid ((Y2.alloc (.cells Z 2)).heap[w1.heap.size]? = some (.cells #[.slice a4 (ds.length + 1) c4, .slice a1 ms.length c1] 26 (0, 0))) := bkB KHd.out bM (by omega)
      have KRm : Hid ((Y2.alloc (.cells Z 2)).heap[w.heap.size]? = some (.cells #[.slice none 0 0, .slice none 0 0] 26 (0, 0))) := bkB KRd.out bM (by omega)
      have TWm := Lib.hid (TWd.out.below bM)
      have HSm := Lib.hid (HSd.out.below HSd.out.lt bM)
      have HCm : Hid (Chg [b] w (Y2.alloc (.cells Z 2))) := HCd.out.alloc _
      have OM : Hid (Own (Y2.alloc (.cells Z 2)) (intsT (List.replicate n 0)) (.slice (some ⟨Y2.heap.size, 0, none⟩) (List.replicate n (0 : Int)).length (List.replicate n (0 : Int)).length) [Y2.heap.size]) := own_rowI Y2 2 Z (List.replicate n 0) HZ.out (by rw [List.length_replicate]; exact Hn1.out) (by rw [List.length_replicate]; unfold maxLen; omega)
      have FRm : Hid (∀ y ∈ [Y2.heap.size], ¬ ((Value.slice a4 (ds.length + 1) c4).ownBlock = some y ∨ y ∈ f0 ++ fd) ∧ ¬ ((Value.slice a1 ms.length c1).ownBlock = some y ∨ y ∈ f1)) := fun y hy => TWd.out.fresh (by simp at hy; omega)
      have zm : (Y2.alloc (.cells Z 2)).heap.size = Y2.heap.size + 1 := by simp
      have IM : Hid (In (w1.heap.size + 1) (Y2.alloc (.cells Z 2)).heap.size [Y2.heap.size]) := fun y hy => by simp at hy; subst hy; omega
      refine wpOrd_step rfl (fun K hK => ?_)
      go_simp
      refine hK.out _ _ (bkC KHm.out 1 rfl) ?_
      clear hK K
      (try simp only [Act.put, List.setIfInBounds_toArray, List.set_cons_zero, List.set_cons_succ])
      clear bM KHd KRd TWd HSd HCd
      rw [List.length_replicate] at OM
      have HLR : Hid ((List.replicate n (0 : Int)).length = n) := List.length_replicate
      generalize Y2.alloc (.cells Z 2) = Y3 at *
      have bA : Below Y3.heap.size Y3 (Y3.alloc (.cells #[.slice (some ⟨Y2.heap.size, 0, none⟩) n n] 28)) := (Below.refl _ _).alloc (Nat.le_refl _) _
      refine wpOrd_step rfl (fun K hK => ?_)
      go_simp
      refine hK.out _ _ (bkC (bkB KHm.out bA (by omega)) 1 rfl) ?_
      clear hK K
      (try simp only [Act.put, List.setIfInBounds_toArray, List.set_cons_zero, List.set_cons_succ])
      clear bA
      refine wpOrd_nil ?_
      simp only [List.drop_succ_cons, List.drop_zero]
      go_wp2_with (at_builtin; go_loud (refine wpList_append1 rfl (.tmp 26) (.tmp 29) _ rfl (w1.heap.size + 1) 28 i0 _ 1 24 Try.underlying24 hi0 hz0 hz1 hz2 rfl (by omega) _ _ _ f1 rfl TWm.out.g1 [.slice (some ⟨Y2.heap.size, 0, none⟩) n n] [intsT (List.replicate n 0)] [Y2.heap.size] rfl 1 (by rw [zm]; rfl) (fun u hu => by simp at hu; subst hu; rfl) (RepV.one OM.out.rep) OM.out.nd OM.out.free (w1.heap.size + 1) TWm.out.i1 IM.out (fun y h1 h2 => (FRm.out y h1).2 (Or.inr h2)) (fun y h1 h2 => (FRm.out y h2).2 (Or.inl h1)) (by unfold maxLen; omega) (by omega) (by omega) ?_; intro v5 w5 hgn; obtain ⟨a5, c5, e5⟩ := growSlice hgn.grow; subst e5; have kh2 := (hgn.keep (w1.heap.size) (by omega) (fun e => by have := (TWm.out.lt1 (Or.inl e)).1; omega)).trans KHm.out; have KH5 := Lib.hid kh2; have m0 := bkC kh2 1 rfl; have mz := bkF kh2 1; have HGN := Lib.hid hgn; clear hgn kh2))
      have z5 := HGN.out.size
      have KH6 : Hid ((w5.setCell ⟨w1.heap.size, 1, none⟩ (.slice a5 (ms.length + 1) c5)).heap[w1.heap.size]? = some (.cells #[.slice a4 (ds.length + 1) c4, .slice a5 (ms.length + 1) c5] 26 (0, 0))) := by
        show _ = _
        have := bkS KH5.out 1 (.slice a5 (ms.length + 1) c5)
        simpa using this
      have KR6 : Hid ((w5.setCell ⟨w1.heap.size, 1, none⟩ (.slice a5 (ms.length + 1) c5)).heap[w.heap.size]? = some (.cells #[.slice none 0 0, .slice none 0 0] 26 (0, 0))) := bkO ((HGN.out.below.block _ (by omega)).trans KRm.out) (by show w.heap.size ≠ w1.heap.size; omega) _
      have TW6 : Hid (Two (w5.setCell ⟨w1.heap.size, 1, none⟩ (.slice a5 (ms.length + 1) c5)) (w1.heap.size + 1) 28 (.slice a4 (ds.length + 1) c4) (.slice a5 (ms.length + 1) c5) (ds ++ [d]) (ms ++ [List.replicate n 0]) (f0 ++ fd) (f1 ++ [Y2.heap.size])) := (TWm.out.app1 (lo := 0) HGN.out IM.out (fun y hy => (FRm.out y hy).1)).frame (by rw [size_setCell]; exact Nat.le_refl _) (fun y hy _ => Below.heap_setCell _ _ _ _ (by show y ≠ w1.heap.size; omega))
      have bl6 : Below w1.heap.size Y3 (w5.setCell ⟨w1.heap.size, 1, none⟩ (.slice a5 (ms.length + 1) c5)) := (HGN.out.below.mono (by omega)).setCell (by show w1.heap.size ≤ w1.heap.size; omega) _
      have HS6 : Hid (Src (w5.setCell ⟨w1.heap.size, 1, none⟩ (.slice a5 (ms.length + 1) c5)) b k2) := HSm.out.below (by omega) bl6
      have HC6 : Hid (Chg [b] w (w5.setCell ⟨w1.heap.size, 1, none⟩ (.slice a5 (ms.length + 1) c5))) := HCm.out.thenB bl6 (by omega)
      have z6 : (w5.setCell ⟨w1.heap.size, 1, none⟩ (.slice a5 (ms.length + 1) c5)).heap.size = w5.heap.size := size_setCell _ _ _
      clear HGN KH5 KRm TWm HSm HCm bl6 m0 mz OM IM FRm KHm
      generalize (w5.setCell ⟨w1.heap.size, 1, none⟩ (.slice a5 (ms.length + 1) c5)) = w6 at *
      go_roundw
      case rel =>
        have el : (ds ++ [d]).length = ds.length + 1 := by simp
        have em : (ms ++ [List.replicate n (0 : Int)]).length = ms.length + 1 := by simp
        refine ⟨j + 1, ds ++ [d], ms ++ [List.replicate n 0], a4, a5, c4, c5, k2, f0 ++ fd, f1 ++ [Y2.heap.size], by omega, by go_num, by rw [el, HDL.out], by rw [HMS.out, List.replicate_succ'], fun r hr => ?_, by rw [el, em]; exact KH6.out, KR6.out, by rw [el, em]; exact TW6.out, HS6.out, by omega, HC6.out, by omega⟩
        rcases List.mem_append.1 hr with e | e
        · exact HDS.out r e
        · simp at e; subst e; exact HD.out
      case measure => simp [intOf]; omega
    · obtain rfl : j = n := by omega
      obtain ⟨a0', c0', a1', c1', p0, p1, e0, e1, O0, O1, I0, I1, dj⟩ := TW.out.own
      injection e0 with v1 _ v2
      subst v1 v2
      injection e1 with v1 _ v2
      subst v1 v2
      rw [HDL.out] at O0 KH
      rw [HML.out] at O1 KH
      have hst : Hid (∃ M, DrawSt w wr w1.heap.size w.heap.size b j (k + 242 + 24 * 0) wr.heap.size 26 a0 a1 c0 c1 ds M p0 p1) := ⟨ms, ⟨HML.out, by rw [HMS.out]; exact zeros_ok j, KH.out, KR.out, O0, O1, ⟨k', by omega, HS.out⟩, HC.out, Nat.le_refl _, I0, I1, dj, by omega, by omega, by omega, by omega⟩⟩
      have hzz : w1.heap.size < wr.heap.size := by omega
      have hmk_ := 0
      clear O0 O1 I0 I1 dj KH KR TW HS HC HMS HML HZ
      generalize wr = wz at *
      clear hi0 hz0 hz1 hz2
      go_wp2_with (fail)
      go_loopw [6] (fun iv wr => ∃ (i : Nat) (M : List (List Int)), i ≤ j ∧ iv = .int .i64 (i : Int) ∧ DrawSt w wr w1.heap.size w.heap.size b j (k + 242 + 24 * i) wz.heap.size 26 a0 a1 c0 c1 ds M p0 p1) (fun iv wr => j - (intOf iv).toNat)
      case atStart =>
        obtain ⟨M, hM⟩ := hst.out
        exact ⟨0, M, Nat.zero_le _, rfl, hM⟩
      case round =>
        clear hst
        obtain ⟨i, M, hi, rfl, hD⟩ := hrel
        have HD := Lib.hid hD
        clear hD
        generalize wr = wo at *
        by_cases hlt2 : i < j
        · have hii : (i : Int) < (j : Int) := by omega
          go_wp2_with (fail)
          go_loopw [7] (fun qv wr => ∃ (q : Nat) (M : List (List Int)), q ≤ i ∧ qv = .int .i64 (q : Int) ∧ DrawSt w wr w1.heap.size w.heap.size b j (k + 242 + 24 * i + 4 * q) wz.heap.size 26 a0 a1 c0 c1 ds M p0 p1) (fun qv wr => i - (intOf qv).toNat)
          case atStart => exact ⟨0, M, Nat.zero_le _, rfl, HD.out⟩
          case round =>
            clear HD
            obtain ⟨q, M2, hq, rfl, hD⟩ := hrel
            have HD := Lib.hid hD
            clear hD
            by_cases hlt3 : q < i
            · have hqi : (q : Int) < (i : Int) := by omega
              obtain ⟨k3, hk3', S3⟩ := HD.out.src
              have HS3 := Lib.hid S3
              clear S3
              go_wp2_with (fail)
              go_at_call 32
              refine (HON.out k3 wr HS3.out (by omega)).mono ?_
              rintro e w4 ⟨⟨bo, rfl⟩, k4, q1, q2, S4, C4⟩
              have HD4 := Lib.hid (HD.out.call (lim' := k + 242 + 24 * i + 4 * q + 2) C4 ⟨k4, by omega, S4⟩)
              have HS4 := Lib.hid S4
              clear S4 C4 HD HS3
              cases bo with
              | false =>
                go_wp2_with (fail)
                go_roundw
                case rel => exact ⟨q + 1, M2, by omega, by go_num, HD4.out.call (Chg.refl _ _) ⟨k4, by omega, HS4.out⟩⟩
                case measure => simp [intOf]; omega
              | true =>
                go_wp2_with (fail)
                go_at_call 30
                refine (HPK.out k4 4 w4 HS4.out (by omega) (by omega) (by omega)).mono ?_
                rintro e w5 ⟨⟨d, hd0, hd1, rfl⟩, k5, q3, q4, S5, C5⟩
                obtain ⟨b1, o1, b2, o2, c2, b3, o3, c3, rfl, s1, s2, ⟨x2, s3⟩, f2, t1, t2, ⟨x3, t3⟩, f3, hst⟩ := (HD4.out.call (lim' := k + 242 + 24 * i + 4 * (q + 1)) C5 ⟨k5, by omega, S5⟩).set (i := i) (q := q) (by omega) (by omega) (by omega) (d := d) (inB_true.2 (by omega))
                have HST := Lib.hid hst
                have T1 := Lib.hid t1
                have T2 := Lib.hid t2
                have T3 := Lib.hid t3
                have F3 := Lib.hid f3
                clear hst t1 t2 t3 f3 S5 C5 HD4 HS4 hd0 hd1
                have hij : (i : Int) < (j : Int) := by omega
                have hqj : (q : Int) < (j : Int) := by omega
                have i0' : (0 : Int) ≤ (i : Int) := by omega
                have q0' : (0 : Int) ≤ (q : Int) := by omega
                go_upto_region 17 with (fail)
                generalize w5.setCell ⟨b2, o2 + q, none⟩ (.int .i64 d) = w6 at *
                clear s1 s2 s3 f2
                have t1 := T1.out
                have t2 := T2.out
                have t3 := T3.out
                have f3 := F3.out
                go_wp2_with (fail)
                go_roundw
                case rel => exact ⟨q + 1, sym2 M2 i q d, by omega, by go_num, HST.out⟩
                case measure => simp [intOf]; omega
            · obtain rfl : q = i := by omega
              go_wp2_with (fail)
              go_roundw
              case rel => exact ⟨q + 1, M2, by omega, by go_num, HD.out.call (Chg.refl _ _) (by obtain ⟨k3, h3, S3⟩ := HD.out.src; exact ⟨k3, by omega, S3⟩)⟩
              case measure => simp [intOf]; omega
        · obtain rfl : i = j := by omega
          obtain ⟨s0, s1⟩ : wo.cell? ⟨w1.heap.size, 0, none⟩ = some (.slice a0 i c0) ∧ wo.cell? ⟨w1.heap.size, 1, none⟩ = some (.slice a1 i c1) := ⟨bkC HD.out.kh 0 rfl, bkC HD.out.kh 1 rfl⟩
          have r0 := bkC HD.out.kr 0 rfl
          have r1 := bkC HD.out.kr 1 rfl
          have rf := bkF HD.out.kr
          have hgeo := HD.out.geo
          have hFr : ∀ y, w.heap.size < y → ((wo.setCell ⟨w.heap.size, 0, none⟩ (.slice a0 i c0)).setCell ⟨w.heap.size, 1, none⟩ (.slice a1 i c1)).heap[y]? = wo.heap[y]? := fun y hy => (Below.heap_setCell _ _ _ y (by show y ≠ w.heap.size; omega)).trans (Below.heap_setCell _ _ _ y (by show y ≠ w.heap.size; omega))
          have HV : Hid (ValidP ⟨ds, M⟩) := by
            have hl := HDL.out
            have hm := HD.out.len
            refine ⟨by show 1 ≤ ds.length; rw [hl]; exact Hn1.out, by show ds.length ≤ 24; omega, fun q hq => ?_, by show M.length = ds.length; omega, fun q hq => ?_⟩
            · have hq' : q < ds.length := hq
              show domB (row ds q) = true
              rw [← row_eq hq']
              exact (HDS.out _ (List.getElem_mem hq')).dom (by omega)
            · show RowOk M ds.length q
              rw [hl]
              exact HD.out.rows q (by rw [← hl]; exact hq)
          have HP : Hid (ProbP w (.returned (.agg #[.slice a0 i c0, .slice a1 i c1])) ((wo.setCell ⟨w.heap.size, 0, none⟩ (.slice a0 i c0)).setCell ⟨w.heap.size, 1, none⟩ (.slice a1 i c1)) ⟨ds, M⟩) := by
            have hl := HDL.out
            have hm := HD.out.len
            refine ⟨a0, c0, a1, c1, p0, p1, ?_, ?_, ?_, ?_, ?_, HD.out.dj⟩
            · show _ = Ending.returned (.agg #[.slice a0 ds.length c0, .slice a1 M.length c1])
              rw [hl, hm]
            · show Own _ (intssT ds) (.slice a0 ds.length c0) p0
              rw [hl]
              exact HD.out.o0.frame (fun y hy => hFr y (by have := (HD.out.i0 y hy).1; omega))
            · show Own _ (intssT M) (.slice a1 M.length c1) p1
              rw [hm]
              exact HD.out.o1.frame (fun y hy => hFr y (by have := (HD.out.i1 y hy).1; omega))
            · simp only [size_setCell]; exact HD.out.i0.mono (by omega) HD.out.sz
            · simp only [size_setCell]; exact HD.out.i1.mono (by omega) HD.out.sz
          have HCf : Hid (Chg [b] w ((wo.setCell ⟨w.heap.size, 0, none⟩ (.slice a0 i c0)).setCell ⟨w.heap.size, 1, none⟩ (.slice a1 i c1))) := (HD.out.chg.setNew (by show w.heap.size ≤ w.heap.size; omega) _).setNew (by show w.heap.size ≤ w.heap.size; omega) _
          clear hFr hgeo HD
          go_wp2_with (fail)
          exact bodyPost_ret (v := .agg #[.slice a0 i c0, .slice a1 i c1]) (by simp [results, Try.results15, go_sem, *]) rfl ⟨⟨ds, M⟩, HV.out, by have := HDL.out; show ds.length ≤ 6; omega, HP.out, HCf.out⟩
end Go.Proofs.Ytpnllibboeeaaaa
