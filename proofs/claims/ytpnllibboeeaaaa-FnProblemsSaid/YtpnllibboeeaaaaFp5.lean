/- Contract: the part of a problem, of the program, at a valid problem and rising items. Conditions: those. -/
import Derived.Test.YtpnllibboeeaaaaFp4
namespace Go.Proofs.Ytpnllibboeeaaaa
open Go.RowKit
set_option linter.unusedVariables false
set_option linter.unusedSimpArgs false

theorem partD_take (m : List (List Int)) (is : List Int) {j : Nat} (h : j < is.length) : (partD m is).take (j + 1) = (partD m is).take j ++ [row m (gi is j).toNat] := by
  have h2 : j < (partD m is).length := by simpa [partD] using h
  rw [List.take_succ_eq_append_getElem h2]
  congr 2
  have := partD_row m is j h
  rw [← row_eq h2] at this
  exact this
theorem partA_take (m : List (List Int)) (is : List Int) {j : Nat} (h : j < is.length) : (partA m is).take (j + 1) = (partA m is).take j ++ [is.map fun k => ap m (gi is j).toNat k.toNat] := by
  have h2 : j < (partA m is).length := by simpa [partA] using h
  rw [List.take_succ_eq_append_getElem h2]
  congr 2
  have := partA_row m is j h
  rw [← row_eq h2] at this
  exact this
theorem mapTake (f : Int → Int) (is : List Int) {q : Nat} (h : q < is.length) : (is.take (q + 1)).map f = (is.take q).map f ++ [f (gi is q)] := by
  rw [List.take_succ_eq_append_getElem h, List.map_append, gi_eq h]; rfl
set_option maxHeartbeats 8000000 in
set_option maxRecDepth 100000 in
theorem partProblem_any (p : DProblem) (is : List Int) (d a iv : Value) (w : World) (hd : Rd w.heap.size w (intssT p.domains) d) (ha : Rd w.heap.size w (intssT p.apart) a) (hl : Rd w.heap.size w (intsT is) iv) (hv : ValidP p) (h : ItemsOk is p.domains.length) :
    Calls Try.prog 9 #[.agg #[d, a], iv] w (NewP (partR p is, 0) w) := by
  obtain ⟨i0, hi0, hz0, hz1, hz2⟩ := info_partsI info28
  obtain ⟨j0, hj0, hy0, hy1, hy2⟩ := info_partsI infoI64
  have hsz := hv.siz
  have hn2 := hv.n2
  have hln := h.len
  have hne := h.ne
  have HV : Hid (∀ W, Below w.heap.size w W → Calls Try.prog 16 #[.agg #[d, a]] W fun e w' => e = .returned (.bool true) ∧ Below W.heap.size W w') := fun W hb => by
    have := iValidProblem_any p d a w.heap.size W (hd.below hb) (ha.below hb) hb.size (by omega) (by omega)
    rw [vP_true hv] at this
    exact this
  have HIN : Hid (∀ W, Below w.heap.size w W → Calls Try.prog 19 #[iv] W fun e w' => e = .returned (.bool true) ∧ Below W.heap.size W w') := fun W hb => by
    have := increasing_any is iv w.heap.size W (hl.below hb) hb.size (by omega)
    rw [h.inc] at this
    exact this
  have HAW : Hid (∀ W, Below w.heap.size w W → Calls Try.prog 20 #[iv, .int .i64 0, .int .i64 ((p.domains.length : Int) - 1)] W fun e w' => e = .returned (.bool true) ∧ Below W.heap.size W w') := fun W hb => by
    have := allWithin_any is 0 ((p.domains.length : Int) - 1) iv w.heap.size W (hl.below hb) hb.size (by omega)
    rw [(all_iff is 0 ((p.domains.length : Int) - 1)).2 (fun i hi => inB_true.2 (by have := h.rng i hi; omega))] at this
    exact this
  have HCL : Hid (∀ (l : List Int) (v : Value) (W : World), Rd W.heap.size W (intsT l) v → l.length ≤ 1048576 → Calls Try.prog 21 #[v] W fun e w' => ∃ a' c' fp, e = .returned (.slice a' l.length c') ∧ Below W.heap.size W w' ∧ Own w' (intsT l) (.slice a' l.length c') fp ∧ In W.heap.size w'.heap.size fp) := fun l v W hr hn => cloneI_any l v W hr hn
  have b0 : Below w.heap.size w ((w.alloc (.cells #[d, a] 26)).alloc (.cells #[.slice none 0 0, .slice none 0 0] 26)) := ((Below.refl _ _).alloc (Nat.le_refl _) _).alloc (by simp) _
  have KP : Hid (((w.alloc (.cells #[d, a] 26)).alloc (.cells #[.slice none 0 0, .slice none 0 0] 26)).heap[w.heap.size]? = some (.cells #[d, a] 26 (0, 0))) := bkA (bkN w #[d, a] 26) (by simp) _
  have KR : Hid (((w.alloc (.cells #[d, a] 26)).alloc (.cells #[.slice none 0 0, .slice none 0 0] 26)).heap[w.heap.size + 1]? = some (.cells #[.slice none 0 0, .slice none 0 0] 26 (0, 0))) := by
    show _ = _
    have := bkN (w.alloc (.cells #[d, a] 26)) #[.slice none 0 0, .slice none 0 0] 26
    simpa using this
  have z0 : w.heap.size + 1 < ((w.alloc (.cells #[d, a] 26)).alloc (.cells #[.slice none 0 0, .slice none 0 0] 26)).heap.size := by simp
  have B0 := Lib.hid b0
  obtain ⟨a1, c1, rfl, _, _, hdc⟩ := hd.rowAt
  obtain ⟨a2, c2, rfl, _, _, hac⟩ := ha.rowAt
  obtain ⟨al, cl, rfl, _, _, hlc⟩ := hl.ints
  have HDC := Lib.hid hdc
  have HAC := Lib.hid hac
  have HLC := Lib.hid hlc
  have HRG := Lib.hid h.rng
  have HDM : Hid (∀ i, i < p.domains.length → (row p.domains i).length ≤ 32) := fun i hi => (domB_bd (hv.dom i hi)).2.1
  have HRL : Hid (∀ i, i < p.domains.length → (row p.apart i).length = p.domains.length) := fun i hi => (hv.rows i hi).len
  have HAL := Lib.hid hv.len
  have hil : (is.length : Int) ≤ 24 := by omega
  have hiz : ((is.length : Int) == 0) = false := by rw [beq_eq_false_iff_ne]; omega
  have hi24 : is.length ≤ 24 := by omega
  have hdl : (p.domains.length : Int) ≤ 24 := by omega
  clear hd ha hl hdc hac hlc hsz hv h b0 hln hne
  generalize hW : (w.alloc (.cells #[.slice a1 p.domains.length c1, .slice a2 p.apart.length c2] 26)).alloc (.cells #[.slice none 0 0, .slice none 0 0] 26) = W0 at *
  have HW := Lib.hid hW
  clear hW
  go_enter Try.func9, Try.ntmps9
  go_upto_region 1 with (fail)
  rw [HW.out]
  obtain ⟨x0, x1⟩ : W0.cell? ⟨w.heap.size, 0, none⟩ = some (.slice a1 p.domains.length c1) ∧ W0.cell? ⟨w.heap.size, 1, none⟩ = some (.slice a2 p.apart.length c2) := ⟨bkC KP.out 0 rfl, bkC KP.out 1 rfl⟩
  go_wp2_with (fail)
  go_at_call 16
  refine (HV.out _ B0.out).mono ?_
  rintro e w1 ⟨rfl, hb1⟩
  have B1 := Lib.hid (B0.out.trans (hb1.mono (by omega)))
  have KP1 := Lib.hid (bkB KP.out hb1 (by omega))
  have KR1 := Lib.hid (bkB KR.out hb1 (by omega))
  have z1 := hb1.size
  clear hb1 x0 x1 KP KR
  have x0 := bkC KP1.out 0 rfl
  go_wp2_with (fail)
  go_at_call 19
  refine (HIN.out _ B1.out).mono ?_
  rintro e w2 ⟨rfl, hb2⟩
  have B2 := Lib.hid (B1.out.trans (hb2.mono (by omega)))
  have KP2 := Lib.hid (bkB KP1.out hb2 (by omega))
  have KR2 := Lib.hid (bkB KR1.out hb2 (by omega))
  have z2 := hb2.size
  clear hb2 x0 KP1 KR1
  have x0 := bkC KP2.out 0 rfl
  go_wp2_with (fail)
  go_at_call 20
  refine (HAW.out _ B2.out).mono ?_
  rintro e w3 ⟨rfl, hb3⟩
  have B3 := Lib.hid (B2.out.trans (hb3.mono (by omega)))
  have KP3 := Lib.hid (bkB KP2.out hb3 (by omega))
  have KR3 := Lib.hid (bkB KR2.out hb3 (by omega))
  have z3 := hb3.size
  clear hb3 x0 KP2 KR2
  have B4 : Hid (Below w3.heap.size w3 (w3.alloc (.cells #[.slice none 0 0, .slice none 0 0] 26))) := below_alloc w3 _
  have KH4 := Lib.hid (bkN w3 #[.slice none 0 0, .slice none 0 0] 26)
  have z4 : w3.heap.size + 1 ≤ (w3.alloc (.cells #[.slice none 0 0, .slice none 0 0] 26)).heap.size := by simp
  go_wp2_with (fail)
  go_loopw [38] (fun iv wr => ∃ (j : Nat) (ds ms : List (List Int)) (a0 a1 : Option Addr) (c0 c1 : Nat) (f0 f1 : List Nat), j ≤ is.length ∧ iv = .int .i64 (j : Int) ∧ ds = (partD p.domains is).take j ∧ ms = (partA p.apart is).take j ∧ wr.heap[w3.heap.size]? = some (.cells #[.slice a0 ds.length c0, .slice a1 ms.length c1] 26 (0, 0)) ∧ Two wr (w3.heap.size + 1) 28 (.slice a0 ds.length c0) (.slice a1 ms.length c1) ds ms f0 f1 ∧ Below w3.heap.size w3 wr ∧ w3.heap.size + 1 ≤ wr.heap.size) (fun iv wr => is.length - (intOf iv).toNat)
  case atStart => exact ⟨0, [], [], none, none, 0, 0, [], [], Nat.zero_le _, rfl, rfl, rfl, KH4.out, Two.start _ _ _, B4.out, z4⟩
  case round =>
    clear B4 KH4 z4
    obtain ⟨j, ds, ms, b0_, b1_, e0, e1, f0, f1, hj, rfl, hds, hms, hkh, htw, hb, zr⟩ := hrel
    have hdl0 : ds.length = j := by rw [hds, List.length_take]; simp [partD]; omega
    have hal0 : ms.length = j := by rw [hms, List.length_take]; simp [partA]; omega
    have HDS := Lib.hid hds
    have HMS := Lib.hid hms
    clear hds hms
    have hdl1 : ds.length ≤ 24 := by omega
    have hal1 : ms.length ≤ 24 := by omega
    have HD0 := Lib.hid hdl0
    have HA0 := Lib.hid hal0
    clear hdl0 hal0
    have KH := Lib.hid hkh
    have TW := Lib.hid htw
    have HB := Lib.hid hb
    clear hkh htw hb
    by_cases hlt : j < is.length
    · have HPD := Lib.hid (partD_take p.domains is hlt)
      have HPA := Lib.hid (partA_take p.apart is hlt)
      obtain ⟨bl, ol, rfl, hbl2, hat2⟩ := HLC.out (by omega)
      have s4 := hat2 j hlt
      rw [gi_eq hlt] at s4
      have hrg := HRG.out j hlt
      obtain ⟨x, hx⟩ := Int.eq_ofNat_of_zero_le hrg.1
      have hxl : x < p.domains.length := by omega
      rw [hx] at s4
      rw [hx, Int.toNat_natCast] at HPD HPA
      obtain ⟨bd, od, rfl, hbd, hat⟩ := HDC.out (by omega)
      obtain ⟨ad, cd, s0, _, _, hrd, _⟩ := hat x hxl
      have HBW := Lib.hid (B3.out.trans (HB.out.mono (by omega)))
      have KHd : Hid (wr.drew.heap[w3.heap.size]? = some (.cells #[.slice b0_ ds.length e0, .slice b1_ ms.length e1] 26 (0, 0))) := KH.out
      have KPd : Hid (wr.drew.heap[w.heap.size]? = some (.cells #[.slice (some ⟨bd, od, none⟩) p.domains.length c1, .slice a2 p.apart.length c2] 26 (0, 0))) := (HB.out.block _ (by omega)).trans KP3.out
      have TWd := Lib.hid (TW.out.below (below_drew1 wr))
      have HBd := Lib.hid HB.out.drew
      have zd : wr.heap.size ≤ wr.drew.heap.size := Nat.le_refl _
      have u4 := (bat HBW.out _ _ hbl2).trans s4
      have u0 : Hid (wr.drew.cell? ⟨bd, od + x, none⟩ = some (.slice ad (row p.domains x).length cd)) := (bat HBW.out _ _ hbd).trans s0
      have HRD := Lib.hid hrd
      have HBWd := Lib.hid HBW.out.drew
      have j1 : (0 : Int) ≤ (j : Int) := by omega
      have j2 : (j : Int) < (is.length : Int) := by omega
      have x1' : (0 : Int) ≤ (x : Int) := by omega
      have x2' : (x : Int) < (p.domains.length : Int) := by omega
      have hbdl : bd < w3.heap.size := by have := B3.out.size; omega
      clear hrg hx s4 s0 hat2 hat hrd KH TW HB HBW
      go_wp2_with (fail)
      clear u4
      refine wp_region_ord 9 [(0, true), (1, true), (2, true), (3, true), (4, true), (5, true), (6, true), (7, false), (8, false)] (fun W => W.cell? ⟨w3.heap.size, 0, none⟩ = some (.slice b0_ ds.length e0) ∧ W.cell? ⟨w.heap.size, 0, none⟩ = some (.slice (some ⟨bd, od, none⟩) p.domains.length c1) ∧ W.cell? ⟨bd, od + x, none⟩ = some (.slice ad (row p.domains x).length cd)) (by kernel_rfl) (by kernel_rfl) ⟨bkC KHd.out 0 rfl, bkC KPd.out 0 rfl, u0.out⟩ (fun hHeld => ?_)
      generalize wr.drew = Y0 at *
      clear hHeld
      refine wpOrd_read (v := ?_) rfl (fun _ _ _ h => h) ?_ ?_
      rotate_left
      · (intro W hSW; (try dsimp only at hSW); (go_simp <;> with_reducible rfl))
      (try simp only [Act.put, List.setIfInBounds_toArray, List.set_cons_zero, List.set_cons_succ])
      refine wpOrd_read (v := ?_) rfl (fun _ _ _ h => h) ?_ ?_
      rotate_left
      · (intro W hSW; (try dsimp only at hSW); (go_simp <;> with_reducible rfl))
      (try simp only [Act.put, List.setIfInBounds_toArray, List.set_cons_zero, List.set_cons_succ])
      refine wpOrd_read (v := ?_) rfl (fun _ _ _ h => h) ?_ ?_
      rotate_left
      · (intro W hSW; (try dsimp only at hSW); (go_simp <;> with_reducible rfl))
      (try simp only [Act.put, List.setIfInBounds_toArray, List.set_cons_zero, List.set_cons_succ])
      refine wpOrd_read (v := ?_) rfl (fun _ _ _ h => h) ?_ ?_
      rotate_left
      · (intro W hSW; (try dsimp only at hSW); (go_simp <;> with_reducible rfl))
      (try simp only [Act.put, List.setIfInBounds_toArray, List.set_cons_zero, List.set_cons_succ])
      refine wpOrd_read (v := ?_) rfl (fun _ _ _ h => h) ?_ ?_
      rotate_left
      · (intro W hSW; (try dsimp only at hSW); (go_simp <;> with_reducible rfl))
      (try simp only [Act.put, List.setIfInBounds_toArray, List.set_cons_zero, List.set_cons_succ])
      refine wpOrd_read (v := ?_) rfl (fun _ _ _ h => h) ?_ ?_
      rotate_left
      · (intro W hSW; (try dsimp only at hSW); (go_simp <;> with_reducible rfl))
      (try simp only [Act.put, List.setIfInBounds_toArray, List.set_cons_zero, List.set_cons_succ])
      refine wpOrd_read (v := ?_) rfl (fun _ _ _ h => h) ?_ ?_
      rotate_left
      · (intro W hSW; (try dsimp only at hSW); (go_simp <;> with_reducible rfl))
      (try simp only [Act.put, List.setIfInBounds_toArray, List.set_cons_zero, List.set_cons_succ])
      refine wpOrd_step rfl (fun K hK => ?_)
      go_simp
      refine (HCL.out (row p.domains x) _ Y0 ((HRD.out.below HBWd.out).mono HBWd.out.size) (by have := HDM.out x hxl; omega)).mono ?_
      rintro e Y1 ⟨ar, cr, fz, rfl, hb1, od1, id1⟩
      have KH1 := Lib.hid (bkB KHd.out hb1 (by omega))
      have KP1 := Lib.hid (bkB KPd.out hb1 (by omega))
      have U1 : Hid (Y1.cell? ⟨bd, od + x, none⟩ = some (.slice ad (row p.domains x).length cd)) := (bat hb1 _ _ (by omega)).trans u0.out
      refine hK.out _ _ ⟨bkC KH1.out 0 rfl, bkC KP1.out 0 rfl, U1.out⟩ ?_
      clear hK K
      (try simp only [Act.put, List.setIfInBounds_toArray, List.set_cons_zero, List.set_cons_succ])
      have OD := Lib.hid od1
      have TW1 := Lib.hid (TWd.out.below hb1)
      have FR : Hid (∀ y ∈ fz, ¬ ((Value.slice b0_ ds.length e0).ownBlock = some y ∨ y ∈ f0) ∧ ¬ ((Value.slice b1_ ms.length e1).ownBlock = some y ∨ y ∈ f1)) := fun y hy => TWd.out.fresh (id1 y hy).1
      have ID : Hid (In (w3.heap.size + 1) Y1.heap.size fz) := id1.mono (by omega) (Nat.le_refl _)
      have HB1 := Lib.hid (HBd.out.trans (hb1.mono (by omega)))
      have zy1 := hb1.size
      clear od1 id1 hb1 KHd KPd TWd HBd u0 HRD HBWd
      have bA : Below Y1.heap.size Y1 (Y1.alloc (.cells #[.slice ar (row p.domains x).length cr] 28)) := (Below.refl _ _).alloc (Nat.le_refl _) _
      refine wpOrd_step rfl (fun K hK => ?_)
      go_simp
      refine hK.out _ _ ⟨bkC (bkB KH1.out bA (by omega)) 0 rfl, bkC (bkB KP1.out bA (by omega)) 0 rfl, (bat bA _ _ (by omega)).trans U1.out⟩ ?_
      clear hK K
      (try simp only [Act.put, List.setIfInBounds_toArray, List.set_cons_zero, List.set_cons_succ])
      clear bA
      refine wpOrd_nil ?_
      simp only [List.drop_succ_cons, List.drop_zero]
      go_wp2_with (at_builtin; go_loud (refine wpList_append1 rfl (.tmp 43) (.tmp 50) _ rfl (w3.heap.size + 1) 28 i0 _ 1 24 Try.underlying24 hi0 hz0 hz1 hz2 rfl (by omega) _ _ _ f0 rfl TW1.out.g0 [.slice ar (row p.domains x).length cr] [intsT (row p.domains x)] fz rfl 1 rfl (fun u hu => by simp at hu; subst hu; rfl) (RepV.one OD.out.rep) OD.out.nd OD.out.free (w3.heap.size + 1) TW1.out.i0 ID.out (fun y h1 h2 => (FR.out y h1).1 (Or.inr h2)) (fun y h1 h2 => (FR.out y h2).1 (Or.inl h1)) (by unfold maxLen; omega) (by omega) (by omega) ?_; intro v5 w5 hgn; obtain ⟨a5, c5, e5⟩ := growSlice hgn.grow; subst e5; have kh2 := (hgn.keep (w3.heap.size) (by omega) (fun e => by have := (TW1.out.lt0 (Or.inl e)).1; omega)).trans KH1.out; have KH5 := Lib.hid kh2; have m0 := bkC kh2 0 rfl; have mz := bkF kh2 0; have HGN := Lib.hid hgn; clear hgn kh2))
      have z5 := HGN.out.size
      have KH6 : Hid ((w5.setCell ⟨w3.heap.size, 0, none⟩ (.slice a5 (ds.length + 1) c5)).heap[w3.heap.size]? = some (.cells #[.slice a5 (ds.length + 1) c5, .slice b1_ ms.length e1] 26 (0, 0))) := by
        show _ = _
        have := bkS KH5.out 0 (.slice a5 (ds.length + 1) c5)
        simpa using this
      have TW6 : Hid (Two (w5.setCell ⟨w3.heap.size, 0, none⟩ (.slice a5 (ds.length + 1) c5)) (w3.heap.size + 1) 28 (.slice a5 (ds.length + 1) c5) (.slice b1_ ms.length e1) (ds ++ [row p.domains x]) ms (f0 ++ fz) f1) := (TW1.out.app0 (lo := 0) HGN.out ID.out (fun y hy => (FR.out y hy).2)).frame (by rw [size_setCell]; exact Nat.le_refl _) (fun y hy _ => Below.heap_setCell _ _ _ _ (by show y ≠ w3.heap.size; omega))
      have HB6 : Hid (Below w3.heap.size w3 (w5.setCell ⟨w3.heap.size, 0, none⟩ (.slice a5 (ds.length + 1) c5))) := (HB1.out.trans (HGN.out.below.mono (by omega))).setCell (by show w3.heap.size ≤ w3.heap.size; omega) _
      have z6 : (w5.setCell ⟨w3.heap.size, 0, none⟩ (.slice a5 (ds.length + 1) c5)).heap.size = w5.heap.size := size_setCell _ _ _
      clear HGN KH5 TW1 HB1 m0 mz OD ID FR KH1 KP1 U1
      generalize (w5.setCell ⟨w3.heap.size, 0, none⟩ (.slice a5 (ds.length + 1) c5)) = w6 at *
      have hw6 : w3.heap.size + 1 ≤ w6.heap.size := by omega
      clear z6 z5 zy1 zd
      go_loopw [9, 55] (fun v qv wr => ∃ (q : Nat), q ≤ is.length ∧ qv = .int .i64 (q : Int) ∧ Below w6.heap.size w6 wr ∧ Grow wr w6.heap.size 2 1 v q (((is.take q).map fun k => ap p.apart x k.toNat).map intT) []) (fun _ qv wr => is.length - (intOf qv).toNat)
      case atStart => exact ⟨0, Nat.zero_le _, rfl, Below.refl _ _, Grow.nil⟩
      case round =>
        obtain ⟨q, hq, rfl, hb, hgr⟩ := hrel
        have HG := Lib.hid hgr
        have HBq := Lib.hid hb
        have zq := hb.size
        clear hb hgr
        by_cases hlt2 : q < is.length
        · have s5 := (HLC.out (by omega))
          obtain ⟨bl', ol', hble, _, hat3⟩ := s5
          injection hble with hble
          injection hble with hb_1 hb_2
          subst hb_1 hb_2
          have s4 := hat3 q hlt2
          rw [gi_eq hlt2] at s4
          have hrg := HRG.out q hlt2
          obtain ⟨y, hy⟩ := Int.eq_ofNat_of_zero_le hrg.1
          have hyl : y < p.domains.length := by omega
          rw [hy] at s4
          obtain ⟨ba, oa, rfl, hba, hat⟩ := HAC.out (by have := HAL.out; omega)
          obtain ⟨ad', cd', s0, _, _, _, hcol⟩ := hat x (by have := HAL.out; omega)
          obtain ⟨bb, ob, rfl, hbb, s2⟩ := hcol y (by rw [HRL.out x hxl]; exact hyl)
          rw [HRL.out x hxl] at s0
          have HBW := Lib.hid (B3.out.trans (HB6.out.trans (HBq.out.mono (by omega)) |>.mono (by omega)))
          have u4 := (bat HBW.out _ _ hbl2).trans s4
          have u0 := (bat HBW.out _ _ hba).trans s0
          have u2 := (bat HBW.out _ _ hbb).trans s2
          have k1 := bkC (((HB6.out.trans (HBq.out.mono (by omega))).block _ (by omega)).trans KP3.out) 1 rfl
          have HMT := Lib.hid (mapTake (fun k => ap p.apart x k.toNat) is hlt2)
          rw [hy, Int.toNat_natCast] at HMT
          have hal' : (p.apart.length : Int) = (p.domains.length : Int) := by have := HAL.out; omega
          have q1 : (0 : Int) ≤ (q : Int) := by omega
          have q2 : (q : Int) < (is.length : Int) := by omega
          have y1 : (0 : Int) ≤ (y : Int) := by omega
          have y2 : (y : Int) < (p.domains.length : Int) := by omega
          have y3 : (x : Int) < (p.apart.length : Int) := by omega
          clear hal' hrg hy s4 s0 s2 hat hat3 hcol
          generalize ap p.apart x y = g at *
          go_wp2_with (at_builtin; refine wpList_append1 rfl (.tmp 59) (.tmp 68) _ rfl w6.heap.size 2 j0 _ 1 8 Try.underlying28 hj0 hy0 hy1 hy2 rfl (by omega) _ _ _ [] rfl HG.out [.int .i64 g] [intT g] [] rfl 1 rfl (fun u hu => by simp at hu; subst hu; rfl) (RepV.lits [.int .i64 g]) List.nodup_nil (fun b h => by simp at h) 0 In.nil In.nil (by simp) (by simp) (by unfold maxLen; omega) (by omega) (by omega) ?_; intro v7 w7 hgn)
          have HGN := Lib.hid hgn
          clear hgn
          go_wp2_with (fail)
          go_roundw
          case rel =>
            refine ⟨q + 1, by omega, by go_num, HBq.out.trans HGN.out.below, ?_⟩
            rw [HMT.out, List.map_append]
            exact HGN.out.grow
          case measure => simp [intOf]; omega
        · obtain rfl : q = is.length := by omega
          rw [List.take_length] at HG
          obtain ⟨ar, cr, fr', e_, _, _⟩ := HG.out.toOwn (lo := w6.heap.size) (by decide) In.nil (Nat.le_refl _)
          obtain ⟨fr, OR, IR, _⟩ := HG.out.toOwnB (lo := w6.heap.size) (by decide) In.nil (Nat.le_refl _)
          subst e_
          have ORr : Hid (Own wr (intsT (is.map fun k => ap p.apart x k.toNat)) (.slice ar is.length cr) fr) := OR
          have HGo := HG.out
          clear HG
          have TWr := Lib.hid (TW6.out.below HBq.out)
          have FRr : Hid (∀ y ∈ fr, ¬ ((Value.slice a5 (ds.length + 1) c5).ownBlock = some y ∨ y ∈ f0 ++ fz) ∧ ¬ ((Value.slice b1_ ms.length e1).ownBlock = some y ∨ y ∈ f1)) := fun y hy => TW6.out.fresh (IR y hy).1
          have IRr : Hid (In (w3.heap.size + 1) wr.heap.size fr) := IR.mono (by omega) (Nat.le_refl _)
          have KHr := Lib.hid (bkB KH6.out HBq.out (by omega))
          have HBr := Lib.hid (HB6.out.trans (HBq.out.mono (by omega)))
          clear OR IR TW6 KH6 HB6
          have m1 := bkC KHr.out 1 rfl
          go_wp2_with (at_builtin; go_loud (refine wpList_append1 rfl (.tmp 72) (.tmp 74) _ rfl (w3.heap.size + 1) 28 i0 _ 1 24 Try.underlying24 hi0 hz0 hz1 hz2 rfl (by omega) _ _ _ f1 rfl TWr.out.g1 [.slice ar is.length cr] [intsT (is.map fun k => ap p.apart x k.toNat)] fr rfl 1 rfl (fun u hu => by simp at hu; subst hu; rfl) (RepV.one ORr.out.rep) ORr.out.nd ORr.out.free (w3.heap.size + 1) TWr.out.i1 IRr.out (fun y h1 h2 => (FRr.out y h1).2 (Or.inr h2)) (fun y h1 h2 => (FRr.out y h2).2 (Or.inl h1)) (by unfold maxLen; omega) (by omega) (by omega) ?_; intro v8 w8 hgn; obtain ⟨a8, c8, e8⟩ := growSlice hgn.grow; subst e8; have kh2 := (hgn.keep (w3.heap.size) (by omega) (fun e => by have := (TWr.out.lt1 (Or.inl e)).1; omega)).trans KHr.out; have KH8 := Lib.hid kh2; have m2 := bkC kh2 1 rfl; have mz := bkF kh2 1; have HGN := Lib.hid hgn; clear hgn kh2))
          have z8 := HGN.out.size
          have KH9 : Hid ((w8.setCell ⟨w3.heap.size, 1, none⟩ (.slice a8 (ms.length + 1) c8)).heap[w3.heap.size]? = some (.cells #[.slice a5 (ds.length + 1) c5, .slice a8 (ms.length + 1) c8] 26 (0, 0))) := by
            show _ = _
            have := bkS KH8.out 1 (.slice a8 (ms.length + 1) c8)
            simpa using this
          have TW9 : Hid (Two (w8.setCell ⟨w3.heap.size, 1, none⟩ (.slice a8 (ms.length + 1) c8)) (w3.heap.size + 1) 28 (.slice a5 (ds.length + 1) c5) (.slice a8 (ms.length + 1) c8) (ds ++ [row p.domains x]) (ms ++ [is.map fun k => ap p.apart x k.toNat]) (f0 ++ fz) (f1 ++ fr)) := (TWr.out.app1 (lo := 0) HGN.out IRr.out (fun y hy => (FRr.out y hy).1)).frame (by rw [size_setCell]; exact Nat.le_refl _) (fun y hy _ => Below.heap_setCell _ _ _ _ (by show y ≠ w3.heap.size; omega))
          have HB9 : Hid (Below w3.heap.size w3 (w8.setCell ⟨w3.heap.size, 1, none⟩ (.slice a8 (ms.length + 1) c8))) := (HBr.out.trans (HGN.out.below.mono (by omega))).setCell (by show w3.heap.size ≤ w3.heap.size; omega) _
          have z9 : (w8.setCell ⟨w3.heap.size, 1, none⟩ (.slice a8 (ms.length + 1) c8)).heap.size = w8.heap.size := size_setCell _ _ _
          clear HGN KH8 TWr HBr m1 m2 mz ORr IRr FRr KHr
          generalize (w8.setCell ⟨w3.heap.size, 1, none⟩ (.slice a8 (ms.length + 1) c8)) = w9 at *
          go_wp2_with (fail)
          go_roundw
          case rel =>
            have el : (ds ++ [row p.domains x]).length = ds.length + 1 := by simp
            have em : (ms ++ [is.map fun k => ap p.apart x k.toNat]).length = ms.length + 1 := by simp
            exact ⟨j + 1, ds ++ [row p.domains x], ms ++ [is.map fun k => ap p.apart x k.toNat], a5, a8, c5, c8, f0 ++ fz, f1 ++ fr, by omega, by go_num, by rw [HPD.out, HDS.out], by rw [HPA.out, HMS.out], by rw [el, em]; exact KH9.out, by rw [el, em]; exact TW9.out, HB9.out, by omega⟩
          case measure => simp [intOf]; omega
    · obtain rfl : j = is.length := by omega
      have hds : ds = (partR p is).domains := by rw [HDS.out]; show _ = partD p.domains is; rw [List.take_of_length_le (by simp [partD])]
      have hms : ms = (partR p is).apart := by rw [HMS.out]; show _ = partA p.apart is; rw [List.take_of_length_le (by simp [partA])]
      obtain ⟨A0, C0, A1, C1, p0, p1, g0, g1, O0, O1, I0, I1, dj⟩ := TW.out.own
      injection g0 with v1 _ v2
      subst v1 v2
      injection g1 with v1 _ v2
      subst v1 v2
      have KRr : wr.heap[w.heap.size + 1]? = some (.cells #[.slice none 0 0, .slice none 0 0] 26 (0, 0)) := (HB.out.block _ (by omega)).trans KR3.out
      obtain ⟨s0, s1⟩ : wr.cell? ⟨w3.heap.size, 0, none⟩ = some (.slice b0_ ds.length e0) ∧ wr.cell? ⟨w3.heap.size, 1, none⟩ = some (.slice b1_ ms.length e1) := ⟨bkC KH.out 0 rfl, bkC KH.out 1 rfl⟩
      have r0 := bkC KRr 0 rfl
      have r1 := bkC KRr 1 rfl
      have rf := bkF KRr
      have hFr : ∀ y, w.heap.size + 1 < y → ((wr.setCell ⟨w.heap.size + 1, 0, none⟩ (.slice b0_ ds.length e0)).setCell ⟨w.heap.size + 1, 1, none⟩ (.slice b1_ ms.length e1)).heap[y]? = wr.heap[y]? := fun y hy => (Below.heap_setCell _ _ _ y (by show y ≠ w.heap.size + 1; omega)).trans (Below.heap_setCell _ _ _ y (by show y ≠ w.heap.size + 1; omega))
      have OO0 := Lib.hid (O0.frame (fun y hy => hFr y (by have := (I0 y hy).1; omega)))
      have OO1 := Lib.hid (O1.frame (fun y hy => hFr y (by have := (I1 y hy).1; omega)))
      have II0 := Lib.hid (I0.mono (lo' := w.heap.size) (by omega) (Nat.le_refl _))
      have II1 := Lib.hid (I1.mono (lo' := w.heap.size) (by omega) (Nat.le_refl _))
      have HDJ := Lib.hid dj
      have BF : Hid (Below w.heap.size w ((wr.setCell ⟨w.heap.size + 1, 0, none⟩ (.slice b0_ ds.length e0)).setCell ⟨w.heap.size + 1, 1, none⟩ (.slice b1_ ms.length e1))) := ((B3.out.trans (HB.out.mono (by omega))).setCell (by show w.heap.size ≤ w.heap.size + 1; omega) _).setCell (by show w.heap.size ≤ w.heap.size + 1; omega) _
      have HF : Hid (NewP (partR p is, 0) w (.returned (.tuple #[.agg #[.slice b0_ ds.length e0, .slice b1_ ms.length e1], .int .i64 0])) ((wr.setCell ⟨w.heap.size + 1, 0, none⟩ (.slice b0_ ds.length e0)).setCell ⟨w.heap.size + 1, 1, none⟩ (.slice b1_ ms.length e1))) := by
        subst hds hms
        exact ⟨b0_, e0, b1_, e1, p0, p1, rfl, BF.out, OO0.out, OO1.out, by simp only [size_setCell]; exact II0.out, by simp only [size_setCell]; exact II1.out, HDJ.out⟩
      clear O0 O1 I0 I1 dj hFr KRr TW HB KH hds hms HDS HMS OO0 OO1 II0 II1 BF
      go_wp2_with (fail)
      exact bodyPost_ret (v := .tuple #[.agg #[.slice b0_ ds.length e0, .slice b1_ ms.length e1], .int .i64 0]) (by simp [results, Try.results9, go_sem, *]) rfl HF.out
end Go.Proofs.Ytpnllibboeeaaaa
