/- Contracts: items, copies and tightening of problems, for the program and for the reference. Conditions: bounded lengths. -/
import Derived.Test.YtpnllibboeeaaaaProb4
import Derived.Test.YtpnllibboeeaaaaClone
import Derived.Deep.RegionHeld3
import Derived.RegionTactic
namespace Go.Proofs.Ytpnllibboeeaaaa
open Go.RowKit
set_option linter.unusedVariables false

def set2 (m : List (List Int)) (i j : Nat) (u : Int) : List (List Int) := m.set i ((row m i).set j u)
theorem set_map {α : Type} (g : α → Tr) (l : List α) (i : Nat) (x : α) : (l.set i x).map g = (l.map g).set i (g x) := by
  rw [List.map_set]
theorem Own.set2 {w : World} {m : List (List Int)} {v : Value} {fp : List Nat} (h : Own w (intssT m) v fp) (i j : Nat) (hi : i < m.length) (hj : j < (row m i).length) :
    ∃ b off n c b' off' c', v = .slice (some ⟨b, off, none⟩) n c ∧ w.cell? ⟨b, off + i, none⟩ = some (.slice (some ⟨b', off', none⟩) (row m i).length c') ∧ w.cell? ⟨b', off' + j, none⟩ = some (.int .i64 (ap m i j)) ∧
      (∀ q, w.frozen? ⟨b', q, none⟩ = false) ∧ b' ∈ fp ∧ b ∈ fp ∧ b' ≠ b ∧ ∀ u, Own (w.setCell ⟨b', off' + j, none⟩ (.int .i64 u)) (intssT (Go.Proofs.Ytpnllibboeeaaaa.set2 m i j u)) v fp := by
  have e1 : (m.map intsT)[i]? = some (intsT (row m i)) := by rw [List.getElem?_map, List.getElem?_eq_getElem hi, ← row_eq hi]; rfl
  obtain ⟨s1, s2⟩ := split_at e1
  have hl : ((m.map intsT).take i).length = i := by rw [List.length_take, List.length_map]; omega
  rw [intssT, s1] at h
  obtain ⟨b, off, n, c, x, g, hv, hbf, hbg, hc, hox, hgf, hset⟩ := h.partAt
  rw [hl] at hc
  have e2 : ((row m i).map intT)[j]? = some (.lit (.int .i64 (ap m i j))) := by rw [List.getElem?_map, List.getElem?_eq_getElem hj, gi_eq hj]; rfl
  obtain ⟨t1, t2⟩ := split_at e2
  have hl2 : (((row m i).map intT).take j).length = j := by rw [List.length_take, List.length_map]; omega
  have hox' := hox
  rw [intsT, t1] at hox'
  obtain ⟨b', off', f', n', c', hx, hfp, hc2, hfz, hst⟩ := hox'.litAt
  rw [hl2] at hc2 hst
  obtain ⟨a3, c3, hv3, _, _⟩ := hox.form1
  rw [hx] at hv3
  injection hv3 with _ hn3 _
  have hbb : b' ∈ g := by rw [hfp]; simp
  refine ⟨b, off, n, c, b', off', c', hv, by rw [hc, hx, hn3], hc2, hfz, hgf b' hbb, hbf, fun e => hbg (e ▸ hbb), fun u => ?_⟩
  have hu := hst (.int .i64 u)
  have e3 : ((row m i).map intT).take j ++ Tr.lit (.int .i64 u) :: ((row m i).map intT).drop (j + 1) = ((row m i).set j u).map intT := by
    rw [set_map, ← t2]; rfl
  rw [e3] at hu
  have := hset (w.setCell ⟨b', off' + j, none⟩ (.int .i64 u)) (intsT ((row m i).set j u)) (fun y hy hyg => Below.heap_setCell w _ _ y (fun e => hyg (by rw [e]; exact hbb))) hu
  rw [← s2] at this
  unfold Go.Proofs.Ytpnllibboeeaaaa.set2
  rw [intssT, set_map]
  exact this

theorem hasItem_any (p : DProblem) (d a : Value) (B : Nat) (k : Int) (w : World) (hd : Rd B w (intssT p.domains) d) (hn : p.domains.length ≤ 1099511627776) :
    Calls Try.prog 23 #[.agg #[d, a], .int .i64 k] w fun e w' => e = .returned (.bool (inB k 0 ((p.domains.length : Int) - 1))) ∧ Below w.heap.size w w' := by
  obtain ⟨a1, c1, rfl, _, _, _⟩ := hd.intss
  clear hd
  have hnb : (p.domains.length : Int) ≤ 1099511627776 := by omega
  go_enter Try.func23, Try.ntmps23
  go_wp2_with (first | (go_at_call 24; refine (within_any _ _ _ _).mono ?_; rintro e w' ⟨rfl, rfl⟩) | (go_at_call 39; go_in))
  go_ret
  exact ⟨rfl, (Below.refl _ _).alloc (Nat.le_refl _) _⟩
theorem cell_drew (w : World) (p : Addr) : w.drew.cell? p = w.cell? p := rfl
theorem frozen_drew (w : World) (p : Addr) : w.drew.frozen? p = w.frozen? p := rfl
set_option maxHeartbeats 1000000 in
theorem tighten_any (m : List (List Int)) (d v : Value) (fp : List Nat) (a b : Nat) (x : Int) (w : World) (h : Own w (intssT m) v fp) (lo : Nat) (hin : In lo w.heap.size fp) (ha : a < m.length) (hb : b < m.length) (hra : b < (row m a).length) (hrb : a < (row m b).length) (hab : a ≠ b) (hm : m.length ≤ 24) :
    Calls Try.prog 26 #[.agg #[d, v], .int .i64 (a : Int), .int .i64 (b : Int), .int .i64 x] w fun e w' => e = .returned (.tuple #[]) ∧ Own w' (intssT (Go.Proofs.Ytpnllibboeeaaaa.set2 (Go.Proofs.Ytpnllibboeeaaaa.set2 m a b (max (ap m a b) x)) b a (max (ap m a b) x))) v fp ∧ Chg fp w w' := by
  have b0 : Below w.heap.size w (w.alloc (.cells #[d, v] 26)) := (Below.refl _ _).alloc (Nat.le_refl _) _
  have h0 := h.below hin (Nat.le_refl _) b0
  obtain ⟨b1, off1, n1, c1, b2, off2, c2, rfl, s1, s2, f2, hf2, hf1, hne, hset⟩ := h0.set2 a b ha hra
  have hb1w : b1 < w.heap.size := (hin _ hf1).2
  have hb2w : b2 < w.heap.size := (hin _ hf2).2
  obtain ⟨a9, c9, hv9, _, _⟩ := h.form1
  injection hv9 with q1 q2 q3
  subst q1 q2 q3
  have x1 : (w.alloc (.cells #[d, .slice (some ⟨b1, off1, none⟩) m.length c1] 26)).cell? ⟨w.heap.size, 1, none⟩ = some (.slice (some ⟨b1, off1, none⟩) m.length c1) := by simp [go_sem]
  have hzw : w.heap.size < (w.alloc (.cells #[d, .slice (some ⟨b1, off1, none⟩) m.length c1] 26)).heap.size := by simp
  generalize hmx : max (ap m a b) x = u at *
  have H1 := Lib.hid (hset u)
  have C1 := Lib.hid ((Chg.of_below (fp := fp) b0).setCell (p := ⟨b2, off2 + b, none⟩) hf2 (.int .i64 u))
  have hrow : (row (Go.Proofs.Ytpnllibboeeaaaa.set2 m a b u) b) = row m b := by simp [row, Go.Proofs.Ytpnllibboeeaaaa.set2, hab]
  obtain ⟨b1', off1', n1', c1', b3, off3, c3, hv, t1, t2, f3, hf3, _, hne3, hset3⟩ := H1.out.set2 b a (by simp [Go.Proofs.Ytpnllibboeeaaaa.set2]; exact hb) (by rw [hrow]; exact hrb)
  injection hv with e1 e2 e3
  injection e1 with e1
  injection e1 with e1 e4
  subst e1 e4 e2 e3
  have hb3w : b3 < w.heap.size := (hin _ hf3).2
  have H3 := Lib.hid (hset3 u)
  have C3 := Lib.hid (C1.out.setCell (p := ⟨b3, off3 + a, none⟩) hf3 (.int .i64 u))
  rw [hrow] at t1
  rw [World.cell?_setCell_other _ _ _ _ (fun e => by injection e with e; exact hne e)] at t1
  simp only [frozen_setCell] at f3
  clear hset3 hset H1 C1 hrow
  have k1 : (a : Int) < ((m.length : Nat) : Int) := by omega
  have k2 : (b : Int) < ((m.length : Nat) : Int) := by omega
  have k3 : (b : Int) < ((row m a).length : Int) := by omega
  have k4 : (a : Int) < ((row m b).length : Int) := by omega
  have k5 : (0 : Int) ≤ (a : Int) := by omega
  have k6 : (0 : Int) ≤ (b : Int) := by omega
  have HMX := Lib.hid hmx
  have hn1 : b2 ≠ w.heap.size := by omega
  have hn2 : b3 ≠ w.heap.size := by omega
  clear b0 h0 h
  go_enter Try.func26, Try.ntmps26
  go_wp2
  generalize (w.alloc (.cells #[d, .slice (some ⟨b1, off1, none⟩) m.length c1] 26)) = W at *
  have y1 : (W.setCell ⟨b2, off2 + b, none⟩ (.int .i64 u)).cell? ⟨w.heap.size, 1, none⟩ = some (.slice (some ⟨b1, off1, none⟩) m.length c1) := by
    rw [World.cell?_setCell_other _ _ _ _ (fun e => by injection e with e; exact hn1 e)]; exact x1
  have y2 : (W.setCell ⟨b2, off2 + b, none⟩ (.int .i64 u)).cell? ⟨b1, off1 + a, none⟩ = some (.slice (some ⟨b2, off2, none⟩) (row m a).length c2) := by
    rw [World.cell?_setCell_other _ _ _ _ (fun e => by injection e with e; exact hne e)]; exact s1
  have y3 : (W.setCell ⟨b2, off2 + b, none⟩ (.int .i64 u)).cell? ⟨b1, off1 + b, none⟩ = some (.slice (some ⟨b3, off3, none⟩) (row m b).length c3) := by
    rw [World.cell?_setCell_other _ _ _ _ (fun e => by injection e with e; exact hne e)]; exact t1
  have y4 : (W.setCell ⟨b2, off2 + b, none⟩ (.int .i64 u)).cell? ⟨b2, off2 + b, none⟩ = some (.int .i64 u) := World.cell?_setCell_same _ _ _ s2
  have y5 : ∀ q, (W.setCell ⟨b2, off2 + b, none⟩ (.int .i64 u)).frozen? ⟨b3, q, none⟩ = false := fun q => by rw [frozen_setCell]; exact f3 q
  have Y1 := Lib.hid y1
  have Y2 := Lib.hid y2
  have Y3 := Lib.hid y3
  have Y4 := Lib.hid y4
  have Y5 := Lib.hid y5
  have Y6 := Lib.hid t2
  clear y1 y2 y3 y4 y5 t2 f3
  go_still_tail 17, (by kernel_rfl)
  change wpList _ _ _ _ _ W.drew
  have hmx2 : (ap m a b < x ∧ u = x) ∨ (x = ap m a b ∧ u = ap m a b) ∨ (x < ap m a b ∧ u = ap m a b) := by have := HMX.out; omega
  rcases hmx2 with ⟨hc, rfl⟩ | ⟨rfl, rfl⟩ | ⟨hc, rfl⟩
  all_goals go_wp2
  all_goals
    have z1 := (cell_drew _ _).trans Y1.out
    have z2 := (cell_drew _ _).trans Y2.out
    have z3 := (cell_drew _ _).trans Y3.out
    have z4 := (cell_drew _ _).trans Y4.out
    have z5 := fun q => (frozen_drew _ _).trans (Y5.out q)
    have z6 := (cell_drew _ _).trans Y6.out
    clear Y1 Y2 Y3 Y4 Y5 Y6 x1 s1 s2 t1 f2
    generalize hW3 : World.drew (W.setCell ⟨b2, off2 + b, none⟩ _) = W3 at *
    have HW3 := Lib.hid hW3
    clear hW3
    go_still_tail 15, (by kernel_rfl)
    change wpList _ _ _ _ _ W3.drew
    go_wp2
    go_end0
    rw [← HW3.out]
    exact ⟨rfl, H3.out.frame (fun _ _ => rfl), ⟨C3.out.os, C3.out.tape, C3.out.output, C3.out.size, C3.out.block⟩⟩
end Go.Proofs.Ytpnllibboeeaaaa
