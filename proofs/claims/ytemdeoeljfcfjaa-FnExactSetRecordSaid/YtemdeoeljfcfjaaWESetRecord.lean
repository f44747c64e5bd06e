/- The walk of the law FnExactSetRecord: it returns true. -/
import Derived.Test.YtemdeoeljfcfjaaReg13
import Derived.Test.YtemdeoeljfcfjaaHRegister
import Derived.Test.YtemdeoeljfcfjaaTree
import Derived.Deep.RegionHeld3
namespace Go.Proofs.Ytemdeoeljfcfjaa.fnExactSetRecord
open Go.RowKit
set_option linter.unusedVariables false
theorem cnt_rec (l : List DRecord) : cnt (DRecord.sT l) ≤ 16 * siz (DRecord.sT l) := by
  rw [DRecord.siz_s]
  unfold DRecord.sT
  rw [cnt]
  induction l with
  | nil => simp [cntL]
  | cons x l ih => rw [List.flatMap_cons, cntL_append, sizL_append, DRecord.cnt_tr, List.length_cons]; omega
theorem cnt_chg (l : List DChange) : cnt (DChange.sT l) ≤ 16 * siz (DChange.sT l) := by
  rw [DChange.siz_s]
  unfold DChange.sT
  rw [cnt]
  induction l with
  | nil => simp [cntL]
  | cons x l ih => rw [List.flatMap_cons, cntL_append, sizL_append, DChange.cnt_tr, List.length_cons]; omega
theorem cntL_reg (n : DRegister) : cnt (DRecord.sT n.records) + cnt (DChange.sT n.changes) ≤ 16 * sizL n.tr := by
  have h := DRegister.siz_tr n
  have h0 := cnt_rec n.records
  have h1 := cnt_chg n.changes
  omega
theorem siz_zero : sizL (DRegister.tr ⟨[], []⟩) = 0 := rfl
theorem siz_filter (p : DRecord → Bool) (l : List DRecord) : siz (DRecord.sT (l.filter p)) ≤ siz (DRecord.sT l) := by
  rw [DRecord.siz_s, DRecord.siz_s]
  induction l with
  | nil => simp
  | cons x l ih =>
    simp only [List.filter_cons]
    split
    · simp only [List.flatMap_cons, sizL_append, List.length_cons]; omega
    · simp only [List.flatMap_cons, sizL_append, List.length_cons]; omega
theorem siz_put (l : List DRecord) (k v : ByteArray) : siz (DRecord.sT (putL l k v)) ≤ 2 * siz (DRecord.sT l) + 1 + k.size + v.size := by
  have h1 := siz_filter (fun x => ltS x.key k) l
  have h2 := siz_filter (fun x => ltS k x.key) l
  have e1 := DRecord.siz_s (l.filter (fun x => ltS x.key k))
  have e2 := DRecord.siz_s (l.filter (fun x => ltS k x.key))
  rw [DRecord.siz_s]
  unfold putL
  simp only [List.flatMap_append, sizL_append, List.length_append]
  split
  · simp only [List.flatMap_nil, sizL, List.length_nil]; omega
  · simp only [List.flatMap_cons, List.flatMap_nil, List.append_nil, List.length_cons, List.length_nil, DRecord.siz_tr]; omega
theorem siz_val (l : List DRecord) (k : ByteArray) : (valOf l k).size ≤ siz (DRecord.sT l) := by
  unfold valOf
  cases h : l.find? (fun x => eqS x.key k) with
  | none => exact Nat.zero_le _
  | some r =>
    obtain ⟨_, i, hi, he, _⟩ := List.find?_eq_some_iff_getElem.1 h
    have h2 := sizL_get_le DRecord.tr l i hi
    rw [he, DRecord.siz_tr] at h2
    rw [DRecord.siz_s]
    simp only
    omega
theorem R_siz (r : DRegister) (key value : ByteArray) (day : Int) : sizL (setRecR r key value day).1.tr ≤ 4 * sizL r.tr + 2 + 2 * key.size + 2 * value.size := by
  have h := DRegister.siz_tr r
  have h1 := siz_put r.records key value
  have h2 := siz_val r.records key
  have h3 : sizL (DRegister.tr ⟨putL r.records key value, r.changes ++ [⟨day, key, valOf r.records key, value⟩]⟩) = siz (DRecord.sT (putL r.records key value)) + siz (DChange.sT (r.changes ++ [⟨day, key, valOf r.records key, value⟩])) := DRegister.siz_tr _
  have h4 : siz (DChange.sT (r.changes ++ [⟨day, key, valOf r.records key, value⟩])) = siz (DChange.sT r.changes) + 1 + (key.size + (valOf r.records key).size + value.size) := by
    rw [DChange.siz_s, DChange.siz_s]
    simp only [List.flatMap_append, sizL_append, List.length_append, List.flatMap_cons, List.flatMap_nil, List.append_nil, List.length_cons, List.length_nil, DChange.siz_tr]
    omega
  unfold setRecR
  repeat' split
  all_goals (first | (rw [siz_zero]; omega) | (simp only; rw [h3, h4]; omega))
set_option maxHeartbeats 4000000 in
set_option maxRecDepth 100000 in
theorem walk (r : DRegister) (key : ByteArray) (value : ByteArray) (day : Int) (vr0 vr1 : Value) (w : World) (rr0 : Rd w.heap.size w (DRecord.sT r.records) vr0) (rr1 : Rd w.heap.size w (DChange.sT r.changes) vr1) (hk_r : r.ok) (hk_key : key.size ≤ maxLen) (hk_value : value.size ≤ maxLen) (hk_day : I64 day) :
    Calls Try.prog 3 #[.agg #[vr0, vr1], .string key, .string value, .int .i64 day] w fun e w' => e = .returned (.bool true) ∧ Below w.heap.size w w' := by
  have Hr0 := Lib.hid rr0
  have Hr1 := Lib.hid rr1
  clear rr0 rr1
  unfold maxLen at hk_key
  unfold maxLen at hk_value
  have hq_r := DRegister.siz_tr r
  have hcn := cntL_reg r
  have hRs := R_siz r key value day
  have hR0 := DRegister.siz_tr (setRecR r key value day).1
  have hRc := cntL_reg (setRecR r key value day).1
  have BB0 : Hid (Below w.heap.size w w) := Below.refl _ _
  generalize hR : setRecR r key value day = R at *
  have HR := Lib.hid hR
  clear hR
  have HS : Hid (∀ (W : World) (xr0 xr1 : Value), Rd W.heap.size W (DRecord.sT r.records) xr0 → Rd W.heap.size W (DChange.sT r.changes) xr1 → sizL r.tr ≤ 1048576 → key.size ≤ 1048576 → value.size ≤ 1048576 → Calls Try.prog 5 #[.agg #[xr0, xr1], .string key, .string value, .int .i64 day] W (fun e w' => ∃ a0_0 c0_0 a0_1 c0_1 fp0, e = .returned (.tuple #[.agg #[.slice a0_0 R.1.records.length c0_0, .slice a0_1 R.1.changes.length c0_1], .int .i64 R.2]) ∧ Below W.heap.size W w' ∧ OwnV w' R.1.tr [.slice a0_0 R.1.records.length c0_0, .slice a0_1 R.1.changes.length c0_1] fp0 ∧ In W.heap.size w'.heap.size fp0)) := fun W xr0 xr1 yr0 yr1 z0 z1 z2 => by rw [← HR.out]; exact sSetRecord_std r key value day xr0 xr1 W yr0 yr1 z0 hk_r z1 z2 hk_day
  have HI : Hid (∀ (W : World) (xr0 xr1 : Value), Rd W.heap.size W (DRecord.sT r.records) xr0 → Rd W.heap.size W (DChange.sT r.changes) xr1 → sizL r.tr ≤ 1048576 → key.size ≤ 1048576 → value.size ≤ 1048576 → Calls Try.prog 7 #[.agg #[xr0, xr1], .string key, .string value, .int .i64 day] W (fun e w' => ∃ a0_0 c0_0 a0_1 c0_1 fp0, e = .returned (.tuple #[.agg #[.slice a0_0 R.1.records.length c0_0, .slice a0_1 R.1.changes.length c0_1], .int .i64 R.2]) ∧ Below W.heap.size W w' ∧ OwnV w' R.1.tr [.slice a0_0 R.1.records.length c0_0, .slice a0_1 R.1.changes.length c0_1] fp0 ∧ In W.heap.size w'.heap.size fp0)) := fun W xr0 xr1 yr0 yr1 z0 z1 z2 => by rw [← HR.out]; exact iSetRecord_std r key value day xr0 xr1 W yr0 yr1 z0 hk_r z1 z2 hk_day
  by_cases hl_key : key.size ≤ 1048576
  case neg =>
    have hl1_key : (1048576 : Int) < ((key.size : Nat) : Int) := by omega
    have hl2_key : 1048576 < key.size := by omega
    go_enter Try.func3, Try.ntmps3
    go_wp2
    go_ret
    exact ⟨rfl, Below.alloc (Below.refl _ _) (by first | exact Nat.le_refl _ | (simp; done) | (simp; omega)) _⟩
  have hl1_key : ((key.size : Nat) : Int) ≤ 1048576 := by omega
  by_cases hl_value : value.size ≤ 1048576
  case neg =>
    have hl1_value : (1048576 : Int) < ((value.size : Nat) : Int) := by omega
    have hl2_value : 1048576 < value.size := by omega
    go_enter Try.func3, Try.ntmps3
    go_wp2
    go_ret
    exact ⟨rfl, Below.alloc (Below.refl _ _) (by first | exact Nat.le_refl _ | (simp; done) | (simp; omega)) _⟩
  have hl1_value : ((value.size : Nat) : Int) ≤ 1048576 := by omega
  go_enter Try.func3, Try.ntmps3
  go_wp2_with fail
  have BX1 : Hid (Below w.heap.size w (w.alloc (.cells #[vr0, vr1] 25))) := (BB0.out.alloc (by first | omega | (simp; done) | (simp; omega)) _)
  have zx1 := BX1.out.size
  refine (sz_Register r vr0 vr1 w.heap.size _ _ (Hr0.out.below BX1.out) (Hr1.out.below BX1.out) (by omega) (by omega) (by omega) hk_r).mono ?_
  rintro e w1 ⟨⟨cz1, rfl⟩ | ⟨cz1, rfl⟩, hb1⟩
  case inr =>
    go_wp2
    go_ret
    exact ⟨rfl, BX1.out.trans (hb1.mono (by omega))⟩
  have cy1 : decide ((1048576 : Int) - sizL r.tr < 0) = false := by simp; omega
  have hx1 : Below w.heap.size w (w.alloc (.cells #[vr0, vr1] 25)) := ((Below.refl _ _).alloc (Nat.le_refl _) _)
  have hbb1 : Below w.heap.size w w1 := hx1.trans (hb1.mono (by first | (simp; done) | (simp; omega)))
  have z1 := hbb1.size
  obtain ⟨qAr1, _, yAr1⟩ := bcellAt hb1 (b := w.heap.size) (by first | omega | (simp; done) | (simp; omega))
  have BB1 := Lib.hid (BB0.out.trans (hbb1.mono (by omega)))
  clear hx1
  clear hb1 hbb1
  have CZ1 := Lib.hid cy1
  go_wp2_with fail
  have BX2 : Hid (Below w.heap.size w w1) := BB1.out
  have zx2 := BX2.out.size
  refine (to_Register r _ _ _ ((Hr0.out.below BX2.out).mono zx2) ((Hr1.out.below BX2.out).mono zx2) (by omega)).mono ?_
  rintro e w2 ⟨atr0, ctr0, atr1, ctr1, ftr, rfl, hb2, ov2, iv2⟩
  have hbb2 : Below w1.heap.size w1 w2 := hb2
  have z2 := hbb2.size
  obtain ⟨qAr2, _, yAr2⟩ := bcellAt hb2 (b := w.heap.size) (by first | omega | (simp; done) | (simp; omega))
  have BB2 := Lib.hid (BB1.out.trans (hbb2.mono (by omega)))
  clear hbb2
  obtain ⟨g2_0, r2_0, e2_0, p2_0, ov2_0, d2_0⟩ := OwnV.uncons ov2
  obtain ⟨g2_1, r2_1, e2_1, p2_1, ov2_1, d2_1⟩ := OwnV.uncons ov2_0
  have iw2 := iv2.mono (lo' := w1.heap.size + 0) (by first | omega | (simp; done) | (simp; omega)) (Nat.le_refl _)
  have hnil2 := ov2_1.rep
  change r2_1 = [] at hnil2
  subst hnil2
  subst e2_1
  subst e2_0
  have itr0 : In _ _ g2_0 := fun y hy => iw2 y (by simp [hy])
  have otr0_2 := Lib.hid p2_0
  have itr1 : In _ _ g2_1 := fun y hy => iw2 y (by simp [hy])
  have otr1_2 := Lib.hid p2_1
  have djtr0_1 : ∀ y ∈ g2_0, y ∉ g2_1 := fun y hy e => d2_0 y hy (by simp [e])
  clear p2_0 ov2_0 d2_0 p2_1 ov2_1 d2_1 ov2 iv2 iw2
  go_wp2_with fail
  refine (HS.out _ _ _ ((otr0_2.out.rd itr0).mono (by omega)) ((otr1_2.out.rd itr1).mono (by omega)) (by omega) (by omega) (by omega)).mono ?_
  rintro e w3 ⟨as00, cs00, as01, cs01, fs0, rfl, hb3, ov3, iv3⟩
  have hbb3 : Below w2.heap.size w2 w3 := hb3
  have z3 := hbb3.size
  obtain ⟨qAr3, _, yAr3⟩ := bcellAt hb3 (b := w.heap.size) (by first | omega | (simp; done) | (simp; omega))
  have BB3 := Lib.hid (BB2.out.trans (hbb3.mono (by omega)))
  have otr0_3 := Lib.hid (otr0_2.out.below itr0 (by omega) hbb3)
  have otr1_3 := Lib.hid (otr1_2.out.below itr1 (by omega) hbb3)
  clear hbb3
  obtain ⟨g3_0, r3_0, e3_0, p3_0, ov3_0, d3_0⟩ := OwnV.uncons ov3
  obtain ⟨g3_1, r3_1, e3_1, p3_1, ov3_1, d3_1⟩ := OwnV.uncons ov3_0
  have iw3 := iv3.mono (lo' := w2.heap.size + 0) (by first | omega | (simp; done) | (simp; omega)) (Nat.le_refl _)
  have hnil3 := ov3_1.rep
  change r3_1 = [] at hnil3
  subst hnil3
  subst e3_1
  subst e3_0
  have is00 : In _ _ g3_0 := fun y hy => iw3 y (by simp [hy])
  have os00_3 := Lib.hid p3_0
  have is01 : In _ _ g3_1 := fun y hy => iw3 y (by simp [hy])
  have os01_3 := Lib.hid p3_1
  have djs00_1 : ∀ y ∈ g3_0, y ∉ g3_1 := fun y hy e => d3_0 y hy (by simp [e])
  clear p3_0 ov3_0 d3_0 p3_1 ov3_1 d3_1 ov3 iv3 iw3
  go_wp2_with fail
  have BX4 : Hid (Below w.heap.size w (w3.alloc (.cells #[.slice as00 R.1.records.length cs00, .slice as01 R.1.changes.length cs01] 30))) := (BB3.out.alloc (by first | omega | (simp; done) | (simp; omega)) _)
  have zx4 := BX4.out.size
  refine (to_Register r _ _ _ ((Hr0.out.below BX4.out).mono zx4) ((Hr1.out.below BX4.out).mono zx4) (by omega)).mono ?_
  rintro e w4 ⟨aur0, cur0, aur1, cur1, fur, rfl, hb4, ov4, iv4⟩
  have hx4 : Below w3.heap.size w3 (w3.alloc (.cells #[.slice as00 R.1.records.length cs00, .slice as01 R.1.changes.length cs01] 30)) := ((Below.refl _ _).alloc (Nat.le_refl _) _)
  have hbb4 : Below w3.heap.size w3 w4 := hx4.trans (hb4.mono (by first | (simp; done) | (simp; omega)))
  have z4 := hbb4.size
  obtain ⟨qAr4, _, yAr4⟩ := bcellAt hb4 (b := w.heap.size) (by first | omega | (simp; done) | (simp; omega))
  obtain ⟨qS04, _, yS04⟩ := bcellAt hb4 (b := w3.heap.size) (by first | omega | (simp; done) | (simp; omega))
  have BB4 := Lib.hid (BB3.out.trans (hbb4.mono (by omega)))
  have os00_4 := Lib.hid (os00_3.out.below is00 (by omega) hbb4)
  have os01_4 := Lib.hid (os01_3.out.below is01 (by omega) hbb4)
  clear hx4
  clear hb4 hbb4
  obtain ⟨g4_0, r4_0, e4_0, p4_0, ov4_0, d4_0⟩ := OwnV.uncons ov4
  obtain ⟨g4_1, r4_1, e4_1, p4_1, ov4_1, d4_1⟩ := OwnV.uncons ov4_0
  have iw4 := iv4.mono (lo' := w3.heap.size + 1) (by first | omega | (simp; done) | (simp; omega)) (Nat.le_refl _)
  have hnil4 := ov4_1.rep
  change r4_1 = [] at hnil4
  subst hnil4
  subst e4_1
  subst e4_0
  have iur0 : In _ _ g4_0 := fun y hy => iw4 y (by simp [hy])
  have our0_4 := Lib.hid p4_0
  have iur1 : In _ _ g4_1 := fun y hy => iw4 y (by simp [hy])
  have our1_4 := Lib.hid p4_1
  have djur0_1 : ∀ y ∈ g4_0, y ∉ g4_1 := fun y hy e => d4_0 y hy (by simp [e])
  clear p4_0 ov4_0 d4_0 p4_1 ov4_1 d4_1 ov4 iv4 iw4
  go_wp2_with fail
  refine (HI.out _ _ _ (((our0_4.out.below iur0 (by omega) ((Below.refl _ _).alloc (Nat.le_refl _) _)).rd iur0).mono (by first | omega | (simp; done) | (simp; omega))) (((our1_4.out.below iur1 (by omega) ((Below.refl _ _).alloc (Nat.le_refl _) _)).rd iur1).mono (by first | omega | (simp; done) | (simp; omega))) (by omega) (by omega) (by omega)).mono ?_
  rintro e w5 ⟨ag00, cg00, ag01, cg01, fg0, rfl, hb5, ov5, iv5⟩
  have hx5 : Below w4.heap.size w4 (w4.alloc (.cells #[.slice aur0 r.records.length cur0, .slice aur1 r.changes.length cur1] 30)) := ((Below.refl _ _).alloc (Nat.le_refl _) _)
  have hbb5 : Below w4.heap.size w4 w5 := hx5.trans (hb5.mono (by first | (simp; done) | (simp; omega)))
  have z5 := hbb5.size
  obtain ⟨qAr5, _, yAr5⟩ := bcellAt hb5 (b := w.heap.size) (by first | omega | (simp; done) | (simp; omega))
  obtain ⟨qS05, _, yS05⟩ := bcellAt hb5 (b := w3.heap.size) (by first | omega | (simp; done) | (simp; omega))
  obtain ⟨qUr5, _, yUr5⟩ := bcellAt hb5 (b := w4.heap.size) (by first | omega | (simp; done) | (simp; omega))
  have BB5 := Lib.hid (BB4.out.trans (hbb5.mono (by omega)))
  have os00_5 := Lib.hid (os00_4.out.below is00 (by omega) hbb5)
  have os01_5 := Lib.hid (os01_4.out.below is01 (by omega) hbb5)
  have our0_5 := Lib.hid (our0_4.out.below iur0 (by omega) hbb5)
  have our1_5 := Lib.hid (our1_4.out.below iur1 (by omega) hbb5)
  clear hx5
  clear hb5 hbb5
  obtain ⟨g5_0, r5_0, e5_0, p5_0, ov5_0, d5_0⟩ := OwnV.uncons ov5
  obtain ⟨g5_1, r5_1, e5_1, p5_1, ov5_1, d5_1⟩ := OwnV.uncons ov5_0
  have iw5 := iv5.mono (lo' := w4.heap.size + 1) (by first | omega | (simp; done) | (simp; omega)) (Nat.le_refl _)
  have hnil5 := ov5_1.rep
  change r5_1 = [] at hnil5
  subst hnil5
  subst e5_1
  subst e5_0
  have ig00 : In _ _ g5_0 := fun y hy => iw5 y (by simp [hy])
  have og00_5 := Lib.hid p5_0
  have ig01 : In _ _ g5_1 := fun y hy => iw5 y (by simp [hy])
  have og01_5 := Lib.hid p5_1
  have djg00_1 : ∀ y ∈ g5_0, y ∉ g5_1 := fun y hy e => d5_0 y hy (by simp [e])
  clear p5_0 ov5_0 d5_0 p5_1 ov5_1 d5_1 ov5 iv5 iw5
  go_wp2_with fail
  refine ((eq_Register R.1 _ _ _ _ (w5.alloc (.cells #[.slice ag00 R.1.records.length cg00, .slice ag01 R.1.changes.length cg01] 30)).heap.size _ (((og00_5.out.below ig00 (by omega) ((Below.refl _ _).alloc (Nat.le_refl _) _)).rd ig00).mono (by first | omega | (simp; done) | (simp; omega))) (((os00_5.out.below is00 (by omega) ((Below.refl _ _).alloc (Nat.le_refl _) _)).rd is00).mono (by first | omega | (simp; done) | (simp; omega))) (((og01_5.out.below ig01 (by omega) ((Below.refl _ _).alloc (Nat.le_refl _) _)).rd ig01).mono (by first | omega | (simp; done) | (simp; omega))) (((os01_5.out.below is01 (by omega) ((Below.refl _ _).alloc (Nat.le_refl _) _)).rd is01).mono (by first | omega | (simp; done) | (simp; omega))) (Nat.le_refl _) (by omega))).mono ?_
  rintro e w6 ⟨rfl, hb6⟩
  have hx6 : Below w5.heap.size w5 (w5.alloc (.cells #[.slice ag00 R.1.records.length cg00, .slice ag01 R.1.changes.length cg01] 30)) := ((Below.refl _ _).alloc (Nat.le_refl _) _)
  have hbb6 : Below w5.heap.size w5 w6 := hx6.trans (hb6.mono (by first | (simp; done) | (simp; omega)))
  have z6 := hbb6.size
  obtain ⟨qAr6, _, yAr6⟩ := bcellAt hb6 (b := w.heap.size) (by first | omega | (simp; done) | (simp; omega))
  obtain ⟨qS06, _, yS06⟩ := bcellAt hb6 (b := w3.heap.size) (by first | omega | (simp; done) | (simp; omega))
  obtain ⟨qUr6, _, yUr6⟩ := bcellAt hb6 (b := w4.heap.size) (by first | omega | (simp; done) | (simp; omega))
  obtain ⟨qG06, _, yG06⟩ := bcellAt hb6 (b := w5.heap.size) (by first | omega | (simp; done) | (simp; omega))
  have BB6 := Lib.hid (BB5.out.trans (hbb6.mono (by omega)))
  have os00_6 := Lib.hid (os00_5.out.below is00 (by omega) hbb6)
  have os01_6 := Lib.hid (os01_5.out.below is01 (by omega) hbb6)
  have our0_6 := Lib.hid (our0_5.out.below iur0 (by omega) hbb6)
  have our1_6 := Lib.hid (our1_5.out.below iur1 (by omega) hbb6)
  have og00_6 := Lib.hid (og00_5.out.below ig00 (by omega) hbb6)
  have og01_6 := Lib.hid (og01_5.out.below ig01 (by omega) hbb6)
  clear hx6
  clear hb6 hbb6
  clear cy1
  have hcf : w6.cell? ⟨w4.heap.size, 0, none⟩ = some (.slice aur0 r.records.length cur0) ∧ w6.cell? ⟨w4.heap.size, 1, none⟩ = some (.slice aur1 r.changes.length cur1) ∧ w6.cell? ⟨w.heap.size, 0, none⟩ = some (vr0) ∧ w6.cell? ⟨w.heap.size, 1, none⟩ = some (vr1) := by refine ⟨?_, ?_, ?_, ?_⟩ <;> simp [go_sem, *]
  go_wp2
  have hsame : Below w6.heap.size w6 w6.drew := ⟨rfl, rfl, rfl, Nat.le_refl _, fun _ _ => rfl⟩
  have BBd := Lib.hid BB6.out.drew
  have HTO := Lib.hid (to_Register r vr0 vr1 w6.drew ((Hr0.out.below BBd.out).mono (by show w.heap.size ≤ w6.heap.size; omega)) ((Hr1.out.below BBd.out).mono (by show w.heap.size ≤ w6.heap.size; omega)) (by omega))
  have HEQ : Hid (∀ (W : World) (p0 p1 q0 q1 : Value), Below w6.heap.size w6 W → RdV W.heap.size W r.tr [q0, q1] → p0 = .slice aur0 r.records.length cur0 → p1 = .slice aur1 r.changes.length cur1 → Calls Try.prog 8 #[.agg #[p0, p1], .agg #[q0, q1]] W fun e w' => e = .returned (.bool true) ∧ Below W.heap.size W w') := fun W p0 p1 q0 q1 hW hr e0 e1 => by
    subst e0 e1
    have hzW := hW.size
    exact eq_Register r _ _ _ _ W.heap.size W (((our0_6.out.below iur0 (by omega) hW).rd iur0).mono (by omega)) hr.1 (((our1_6.out.below iur1 (by omega) hW).rd iur1).mono (by omega)) hr.2.1 (Nat.le_refl _) (by omega)
  go_region_held3 (fun W => W.cell? ⟨w4.heap.size, 0, none⟩ = some (.slice aur0 r.records.length cur0) ∧ W.cell? ⟨w4.heap.size, 1, none⟩ = some (.slice aur1 r.changes.length cur1) ∧ W.cell? ⟨w.heap.size, 0, none⟩ = some (vr0) ∧ W.cell? ⟨w.heap.size, 1, none⟩ = some (vr1)) (first | exact hcf | (refine ⟨?_, ?_, ?_, ?_⟩ <;> simp [go_sem, *]))
    (first
      | (go_at_call 6; refine (HTO.out).mono ?_; rintro e wt ⟨at0, ct0, at1, ct1, ft, rfl, hbt, ovt, ivt⟩; obtain ⟨qUt, _, yUt⟩ := bcellAt hbt (b := w4.heap.size) (by show w4.heap.size < w6.heap.size; omega); obtain ⟨qAt, _, yAt⟩ := bcellAt hbt (b := w.heap.size) (by show w.heap.size < w6.heap.size; omega))
      | (go_at_call 8; refine (HEQ.out _ _ _ _ _ (hsame.trans hbt) (ovt.rd ivt) rfl rfl).mono ?_; rintro e w7 ⟨rfl, hbe⟩; obtain ⟨qUe, _, yUe⟩ := bcellAt hbe (b := w4.heap.size) yUt; obtain ⟨qAe, _, yAe⟩ := bcellAt hbe (b := w.heap.size) yAt))
  have hb7 : Below w6.heap.size w6 w7 := (hsame.trans hbt).trans (hbe.mono (hsame.trans hbt).size)
  clear HEQ HTO BBd hcf qUt qAt qUe qAe yUt yAt yUe yAe hbe hbt ovt ivt hsame
  have hbb7 : Below w6.heap.size w6 w7 := hb7
  have z7 := hbb7.size
  obtain ⟨qAr7, _, yAr7⟩ := bcellAt hb7 (b := w.heap.size) (by first | omega | (simp; done) | (simp; omega))
  obtain ⟨qS07, _, yS07⟩ := bcellAt hb7 (b := w3.heap.size) (by first | omega | (simp; done) | (simp; omega))
  obtain ⟨qUr7, _, yUr7⟩ := bcellAt hb7 (b := w4.heap.size) (by first | omega | (simp; done) | (simp; omega))
  obtain ⟨qG07, _, yG07⟩ := bcellAt hb7 (b := w5.heap.size) (by first | omega | (simp; done) | (simp; omega))
  have BB7 := Lib.hid (BB6.out.trans (hbb7.mono (by omega)))
  have os00_7 := Lib.hid (os00_6.out.below is00 (by omega) hbb7)
  have os01_7 := Lib.hid (os01_6.out.below is01 (by omega) hbb7)
  have our0_7 := Lib.hid (our0_6.out.below iur0 (by omega) hbb7)
  have our1_7 := Lib.hid (our1_6.out.below iur1 (by omega) hbb7)
  have og00_7 := Lib.hid (og00_6.out.below ig00 (by omega) hbb7)
  have og01_7 := Lib.hid (og01_6.out.below ig01 (by omega) hbb7)
  clear hbb7
  go_wp2_with fail
  refine (mark_Register r _ _ g4_0 g4_1 (1) _ _ _ _ _ our0_7.out iur0 (by first | omega | (simp; done) | (simp; omega)) our1_7.out iur1 (by first | omega | (simp; done) | (simp; omega)) djur0_1 (by omega) (by omega) (by omega)).mono ?_
  rintro e w8 ⟨rfl, mur0, mur1, hc8⟩
  have hcc8 : Chg (g4_0 ++ g4_1) w7 w8 := hc8
  have z8 := hcc8.size
  have hkAr8 := hc8.block (w.heap.size) (by first | omega | (simp; done) | (simp; omega)) (fun e => by simp only [List.mem_append] at e; rcases e with (e | e) <;> first | (have h2 := iur0 _ e; omega) | (have h2 := iur1 _ e; omega))
  have qAr8 : ∀ o, w8.cell? ⟨w.heap.size, o, none⟩ = _ := fun o => World.cell?_of_block (a := ⟨w.heap.size, o, none⟩) hkAr8
  have yAr8 : w.heap.size < w8.heap.size := by first | omega | (have := hc8.size; simp at this; omega)
  clear hkAr8
  have hkS08 := hc8.block (w3.heap.size) (by first | omega | (simp; done) | (simp; omega)) (fun e => by simp only [List.mem_append] at e; rcases e with (e | e) <;> first | (have h2 := iur0 _ e; omega) | (have h2 := iur1 _ e; omega))
  have qS08 : ∀ o, w8.cell? ⟨w3.heap.size, o, none⟩ = _ := fun o => World.cell?_of_block (a := ⟨w3.heap.size, o, none⟩) hkS08
  have yS08 : w3.heap.size < w8.heap.size := by first | omega | (have := hc8.size; simp at this; omega)
  clear hkS08
  have hkUr8 := hc8.block (w4.heap.size) (by first | omega | (simp; done) | (simp; omega)) (fun e => by simp only [List.mem_append] at e; rcases e with (e | e) <;> first | (have h2 := iur0 _ e; omega) | (have h2 := iur1 _ e; omega))
  have qUr8 : ∀ o, w8.cell? ⟨w4.heap.size, o, none⟩ = _ := fun o => World.cell?_of_block (a := ⟨w4.heap.size, o, none⟩) hkUr8
  have yUr8 : w4.heap.size < w8.heap.size := by first | omega | (have := hc8.size; simp at this; omega)
  clear hkUr8
  have hkG08 := hc8.block (w5.heap.size) (by first | omega | (simp; done) | (simp; omega)) (fun e => by simp only [List.mem_append] at e; rcases e with (e | e) <;> first | (have h2 := iur0 _ e; omega) | (have h2 := iur1 _ e; omega))
  have qG08 : ∀ o, w8.cell? ⟨w5.heap.size, o, none⟩ = _ := fun o => World.cell?_of_block (a := ⟨w5.heap.size, o, none⟩) hkG08
  have yG08 : w5.heap.size < w8.heap.size := by first | omega | (have := hc8.size; simp at this; omega)
  clear hkG08
  have BB8 := Lib.hid (BB7.out.trans (hcc8.below (by omega) (fun x hx => by simp only [List.mem_append] at hx; rcases hx with (hx | hx) <;> first | (have h2 := iur0 x hx; omega) | (have h2 := iur1 x hx; omega))))
  have os00_8 := Lib.hid (os00_7.out.chg is00 (by omega) hcc8 (fun x hx e => by have hx0 := is00 x hx; simp only [List.mem_append] at e; rcases e with (e | e) <;> first | (have h2 := iur0 x e; omega) | (have h2 := iur1 x e; omega)))
  have os01_8 := Lib.hid (os01_7.out.chg is01 (by omega) hcc8 (fun x hx e => by have hx0 := is01 x hx; simp only [List.mem_append] at e; rcases e with (e | e) <;> first | (have h2 := iur0 x e; omega) | (have h2 := iur1 x e; omega)))
  have og00_8 := Lib.hid (og00_7.out.chg ig00 (by omega) hcc8 (fun x hx e => by have hx0 := ig00 x hx; simp only [List.mem_append] at e; rcases e with (e | e) <;> first | (have h2 := iur0 x e; omega) | (have h2 := iur1 x e; omega)))
  have og01_8 := Lib.hid (og01_7.out.chg ig01 (by omega) hcc8 (fun x hx e => by have hx0 := ig01 x hx; simp only [List.mem_append] at e; rcases e with (e | e) <;> first | (have h2 := iur0 x e; omega) | (have h2 := iur1 x e; omega)))
  clear hcc8
  have kour0_8 := Lib.hid mur0
  clear mur0
  have kour1_8 := Lib.hid mur1
  clear mur1
  have kd8 : decide (((1 + cnt (DRecord.sT r.records) + cnt (DChange.sT r.changes) : Nat) : Int) < 0) = false := by simp; omega
  go_wp2_with fail
  refine ((eq_Register R.1 _ _ _ _ w8.heap.size _ ((og00_8.out.rd ig00).mono (by omega)) ((os00_8.out.rd is00).mono (by omega)) ((og01_8.out.rd ig01).mono (by omega)) ((os01_8.out.rd is01).mono (by omega)) (Nat.le_refl _) (by omega))).mono ?_
  rintro e w9 ⟨rfl, hb9⟩
  have hbb9 : Below w8.heap.size w8 w9 := hb9
  have z9 := hbb9.size
  obtain ⟨qAr9, _, yAr9⟩ := bcellAt hb9 (b := w.heap.size) (by first | omega | (simp; done) | (simp; omega))
  obtain ⟨qS09, _, yS09⟩ := bcellAt hb9 (b := w3.heap.size) (by first | omega | (simp; done) | (simp; omega))
  obtain ⟨qUr9, _, yUr9⟩ := bcellAt hb9 (b := w4.heap.size) (by first | omega | (simp; done) | (simp; omega))
  obtain ⟨qG09, _, yG09⟩ := bcellAt hb9 (b := w5.heap.size) (by first | omega | (simp; done) | (simp; omega))
  have BB9 := Lib.hid (BB8.out.trans (hbb9.mono (by omega)))
  have os00_9 := Lib.hid (os00_8.out.below is00 (by omega) hbb9)
  have os01_9 := Lib.hid (os01_8.out.below is01 (by omega) hbb9)
  have og00_9 := Lib.hid (og00_8.out.below ig00 (by omega) hbb9)
  have og01_9 := Lib.hid (og01_8.out.below ig01 (by omega) hbb9)
  clear hbb9
  go_wp2_with fail
  refine (mark_Register R.1 _ _ g5_0 g5_1 (1) _ _ _ _ _ og00_9.out ig00 (by first | omega | (simp; done) | (simp; omega)) og01_9.out ig01 (by first | omega | (simp; done) | (simp; omega)) djg00_1 (by omega) (by omega) (by omega)).mono ?_
  rintro e w10 ⟨rfl, mg00, mg01, hc10⟩
  have hcc10 : Chg (g5_0 ++ g5_1) w9 w10 := hc10
  have z10 := hcc10.size
  have hkAr10 := hc10.block (w.heap.size) (by first | omega | (simp; done) | (simp; omega)) (fun e => by simp only [List.mem_append] at e; rcases e with (e | e) <;> first | (have h2 := ig00 _ e; omega) | (have h2 := ig01 _ e; omega))
  have qAr10 : ∀ o, w10.cell? ⟨w.heap.size, o, none⟩ = _ := fun o => World.cell?_of_block (a := ⟨w.heap.size, o, none⟩) hkAr10
  have yAr10 : w.heap.size < w10.heap.size := by first | omega | (have := hc10.size; simp at this; omega)
  clear hkAr10
  have hkS010 := hc10.block (w3.heap.size) (by first | omega | (simp; done) | (simp; omega)) (fun e => by simp only [List.mem_append] at e; rcases e with (e | e) <;> first | (have h2 := ig00 _ e; omega) | (have h2 := ig01 _ e; omega))
  have qS010 : ∀ o, w10.cell? ⟨w3.heap.size, o, none⟩ = _ := fun o => World.cell?_of_block (a := ⟨w3.heap.size, o, none⟩) hkS010
  have yS010 : w3.heap.size < w10.heap.size := by first | omega | (have := hc10.size; simp at this; omega)
  clear hkS010
  have hkUr10 := hc10.block (w4.heap.size) (by first | omega | (simp; done) | (simp; omega)) (fun e => by simp only [List.mem_append] at e; rcases e with (e | e) <;> first | (have h2 := ig00 _ e; omega) | (have h2 := ig01 _ e; omega))
  have qUr10 : ∀ o, w10.cell? ⟨w4.heap.size, o, none⟩ = _ := fun o => World.cell?_of_block (a := ⟨w4.heap.size, o, none⟩) hkUr10
  have yUr10 : w4.heap.size < w10.heap.size := by first | omega | (have := hc10.size; simp at this; omega)
  clear hkUr10
  have hkG010 := hc10.block (w5.heap.size) (by first | omega | (simp; done) | (simp; omega)) (fun e => by simp only [List.mem_append] at e; rcases e with (e | e) <;> first | (have h2 := ig00 _ e; omega) | (have h2 := ig01 _ e; omega))
  have qG010 : ∀ o, w10.cell? ⟨w5.heap.size, o, none⟩ = _ := fun o => World.cell?_of_block (a := ⟨w5.heap.size, o, none⟩) hkG010
  have yG010 : w5.heap.size < w10.heap.size := by first | omega | (have := hc10.size; simp at this; omega)
  clear hkG010
  have BB10 := Lib.hid (BB9.out.trans (hcc10.below (by omega) (fun x hx => by simp only [List.mem_append] at hx; rcases hx with (hx | hx) <;> first | (have h2 := ig00 x hx; omega) | (have h2 := ig01 x hx; omega))))
  have os00_10 := Lib.hid (os00_9.out.chg is00 (by omega) hcc10 (fun x hx e => by have hx0 := is00 x hx; simp only [List.mem_append] at e; rcases e with (e | e) <;> first | (have h2 := ig00 x e; omega) | (have h2 := ig01 x e; omega)))
  have os01_10 := Lib.hid (os01_9.out.chg is01 (by omega) hcc10 (fun x hx e => by have hx0 := is01 x hx; simp only [List.mem_append] at e; rcases e with (e | e) <;> first | (have h2 := ig00 x e; omega) | (have h2 := ig01 x e; omega)))
  clear hcc10
  have kog00_10 := Lib.hid mg00
  clear mg00
  have kog01_10 := Lib.hid mg01
  clear mg01
  go_wp2_with fail
  refine (held_Register R.1 _ _ w10.heap.size (1) _ ((kog00_10.out.rd ig00).mono (by omega)) ((kog01_10.out.rd ig01).mono (by omega)) (Nat.le_refl _) (by omega) (by omega) (by omega)).mono ?_
  rintro e w11 ⟨rfl, hb11⟩
  have hbb11 : Below w10.heap.size w10 w11 := hb11
  have z11 := hbb11.size
  obtain ⟨qAr11, _, yAr11⟩ := bcellAt hb11 (b := w.heap.size) (by first | omega | (simp; done) | (simp; omega))
  obtain ⟨qS011, _, yS011⟩ := bcellAt hb11 (b := w3.heap.size) (by first | omega | (simp; done) | (simp; omega))
  obtain ⟨qUr11, _, yUr11⟩ := bcellAt hb11 (b := w4.heap.size) (by first | omega | (simp; done) | (simp; omega))
  obtain ⟨qG011, _, yG011⟩ := bcellAt hb11 (b := w5.heap.size) (by first | omega | (simp; done) | (simp; omega))
  have BB11 := Lib.hid (BB10.out.trans (hbb11.mono (by omega)))
  have os00_11 := Lib.hid (os00_10.out.below is00 (by omega) hbb11)
  have os01_11 := Lib.hid (os01_10.out.below is01 (by omega) hbb11)
  have kog00_11 := Lib.hid (kog00_10.out.below ig00 (by omega) hbb11)
  have kog01_11 := Lib.hid (kog01_10.out.below ig01 (by omega) hbb11)
  clear hbb11
  go_wp2_with fail
  have BX12 : Hid (Below w.heap.size w w11) := BB11.out
  have zx12 := BX12.out.size
  refine (to_Register r _ _ _ ((Hr0.out.below BX12.out).mono zx12) ((Hr1.out.below BX12.out).mono zx12) (by omega)).mono ?_
  rintro e w12 ⟨amr0, cmr0, amr1, cmr1, fmr, rfl, hb12, ov12, iv12⟩
  have hbb12 : Below w11.heap.size w11 w12 := hb12
  have z12 := hbb12.size
  obtain ⟨qAr12, _, yAr12⟩ := bcellAt hb12 (b := w.heap.size) (by first | omega | (simp; done) | (simp; omega))
  obtain ⟨qS012, _, yS012⟩ := bcellAt hb12 (b := w3.heap.size) (by first | omega | (simp; done) | (simp; omega))
  obtain ⟨qUr12, _, yUr12⟩ := bcellAt hb12 (b := w4.heap.size) (by first | omega | (simp; done) | (simp; omega))
  obtain ⟨qG012, _, yG012⟩ := bcellAt hb12 (b := w5.heap.size) (by first | omega | (simp; done) | (simp; omega))
  have BB12 := Lib.hid (BB11.out.trans (hbb12.mono (by omega)))
  have os00_12 := Lib.hid (os00_11.out.below is00 (by omega) hbb12)
  have os01_12 := Lib.hid (os01_11.out.below is01 (by omega) hbb12)
  have kog00_12 := Lib.hid (kog00_11.out.below ig00 (by omega) hbb12)
  have kog01_12 := Lib.hid (kog01_11.out.below ig01 (by omega) hbb12)
  clear hbb12
  obtain ⟨g12_0, r12_0, e12_0, p12_0, ov12_0, d12_0⟩ := OwnV.uncons ov12
  obtain ⟨g12_1, r12_1, e12_1, p12_1, ov12_1, d12_1⟩ := OwnV.uncons ov12_0
  have iw12 := iv12.mono (lo' := w11.heap.size + 0) (by first | omega | (simp; done) | (simp; omega)) (Nat.le_refl _)
  have hnil12 := ov12_1.rep
  change r12_1 = [] at hnil12
  subst hnil12
  subst e12_1
  subst e12_0
  have imr0 : In _ _ g12_0 := fun y hy => iw12 y (by simp [hy])
  have omr0_12 := Lib.hid p12_0
  have imr1 : In _ _ g12_1 := fun y hy => iw12 y (by simp [hy])
  have omr1_12 := Lib.hid p12_1
  have djmr0_1 : ∀ y ∈ g12_0, y ∉ g12_1 := fun y hy e => d12_0 y hy (by simp [e])
  clear p12_0 ov12_0 d12_0 p12_1 ov12_1 d12_1 ov12 iv12 iw12
  go_wp2_with fail
  refine (HI.out _ _ _ ((omr0_12.out.rd imr0).mono (by omega)) ((omr1_12.out.rd imr1).mono (by omega)) (by omega) (by omega) (by omega)).mono ?_
  rintro e w13 ⟨ah00, ch00, ah01, ch01, fh0, rfl, hb13, ov13, iv13⟩
  have hbb13 : Below w12.heap.size w12 w13 := hb13
  have z13 := hbb13.size
  obtain ⟨qAr13, _, yAr13⟩ := bcellAt hb13 (b := w.heap.size) (by first | omega | (simp; done) | (simp; omega))
  obtain ⟨qS013, _, yS013⟩ := bcellAt hb13 (b := w3.heap.size) (by first | omega | (simp; done) | (simp; omega))
  obtain ⟨qUr13, _, yUr13⟩ := bcellAt hb13 (b := w4.heap.size) (by first | omega | (simp; done) | (simp; omega))
  obtain ⟨qG013, _, yG013⟩ := bcellAt hb13 (b := w5.heap.size) (by first | omega | (simp; done) | (simp; omega))
  have BB13 := Lib.hid (BB12.out.trans (hbb13.mono (by omega)))
  have os00_13 := Lib.hid (os00_12.out.below is00 (by omega) hbb13)
  have os01_13 := Lib.hid (os01_12.out.below is01 (by omega) hbb13)
  have kog00_13 := Lib.hid (kog00_12.out.below ig00 (by omega) hbb13)
  have kog01_13 := Lib.hid (kog01_12.out.below ig01 (by omega) hbb13)
  have omr0_13 := Lib.hid (omr0_12.out.below imr0 (by omega) hbb13)
  have omr1_13 := Lib.hid (omr1_12.out.below imr1 (by omega) hbb13)
  clear hbb13
  obtain ⟨g13_0, r13_0, e13_0, p13_0, ov13_0, d13_0⟩ := OwnV.uncons ov13
  obtain ⟨g13_1, r13_1, e13_1, p13_1, ov13_1, d13_1⟩ := OwnV.uncons ov13_0
  have iw13 := iv13.mono (lo' := w12.heap.size + 0) (by first | omega | (simp; done) | (simp; omega)) (Nat.le_refl _)
  have hnil13 := ov13_1.rep
  change r13_1 = [] at hnil13
  subst hnil13
  subst e13_1
  subst e13_0
  have ih00 : In _ _ g13_0 := fun y hy => iw13 y (by simp [hy])
  have oh00_13 := Lib.hid p13_0
  have ih01 : In _ _ g13_1 := fun y hy => iw13 y (by simp [hy])
  have oh01_13 := Lib.hid p13_1
  have djh00_1 : ∀ y ∈ g13_0, y ∉ g13_1 := fun y hy e => d13_0 y hy (by simp [e])
  clear p13_0 ov13_0 d13_0 p13_1 ov13_1 d13_1 ov13 iv13 iw13
  go_wp2_with fail
  refine ((eq_Register R.1 _ _ _ _ (w13.alloc (.cells #[.slice ah00 R.1.records.length ch00, .slice ah01 R.1.changes.length ch01] 30)).heap.size _ (((oh00_13.out.below ih00 (by omega) ((Below.refl _ _).alloc (Nat.le_refl _) _)).rd ih00).mono (by first | omega | (simp; done) | (simp; omega))) (((os00_13.out.below is00 (by omega) ((Below.refl _ _).alloc (Nat.le_refl _) _)).rd is00).mono (by first | omega | (simp; done) | (simp; omega))) (((oh01_13.out.below ih01 (by omega) ((Below.refl _ _).alloc (Nat.le_refl _) _)).rd ih01).mono (by first | omega | (simp; done) | (simp; omega))) (((os01_13.out.below is01 (by omega) ((Below.refl _ _).alloc (Nat.le_refl _) _)).rd is01).mono (by first | omega | (simp; done) | (simp; omega))) (Nat.le_refl _) (by omega))).mono ?_
  rintro e w14 ⟨rfl, hb14⟩
  have hx14 : Below w13.heap.size w13 (w13.alloc (.cells #[.slice ah00 R.1.records.length ch00, .slice ah01 R.1.changes.length ch01] 30)) := ((Below.refl _ _).alloc (Nat.le_refl _) _)
  have hbb14 : Below w13.heap.size w13 w14 := hx14.trans (hb14.mono (by first | (simp; done) | (simp; omega)))
  have z14 := hbb14.size
  obtain ⟨qAr14, _, yAr14⟩ := bcellAt hb14 (b := w.heap.size) (by first | omega | (simp; done) | (simp; omega))
  obtain ⟨qS014, _, yS014⟩ := bcellAt hb14 (b := w3.heap.size) (by first | omega | (simp; done) | (simp; omega))
  obtain ⟨qUr14, _, yUr14⟩ := bcellAt hb14 (b := w4.heap.size) (by first | omega | (simp; done) | (simp; omega))
  obtain ⟨qG014, _, yG014⟩ := bcellAt hb14 (b := w5.heap.size) (by first | omega | (simp; done) | (simp; omega))
  obtain ⟨qH014, _, yH014⟩ := bcellAt hb14 (b := w13.heap.size) (by first | omega | (simp; done) | (simp; omega))
  have BB14 := Lib.hid (BB13.out.trans (hbb14.mono (by omega)))
  have os00_14 := Lib.hid (os00_13.out.below is00 (by omega) hbb14)
  have os01_14 := Lib.hid (os01_13.out.below is01 (by omega) hbb14)
  have kog00_14 := Lib.hid (kog00_13.out.below ig00 (by omega) hbb14)
  have kog01_14 := Lib.hid (kog01_13.out.below ig01 (by omega) hbb14)
  have oh00_14 := Lib.hid (oh00_13.out.below ih00 (by omega) hbb14)
  have oh01_14 := Lib.hid (oh01_13.out.below ih01 (by omega) hbb14)
  clear hx14
  clear hb14 hbb14
  go_wp2_with fail
  refine (held_Register R.1 _ _ w14.heap.size (1) _ ((kog00_14.out.rd ig00).mono (by omega)) ((kog01_14.out.rd ig01).mono (by omega)) (Nat.le_refl _) (by omega) (by omega) (by omega)).mono ?_
  rintro e w15 ⟨rfl, hb15⟩
  have hbb15 : Below w14.heap.size w14 w15 := hb15
  have z15 := hbb15.size
  obtain ⟨qAr15, _, yAr15⟩ := bcellAt hb15 (b := w.heap.size) (by first | omega | (simp; done) | (simp; omega))
  obtain ⟨qS015, _, yS015⟩ := bcellAt hb15 (b := w3.heap.size) (by first | omega | (simp; done) | (simp; omega))
  obtain ⟨qUr15, _, yUr15⟩ := bcellAt hb15 (b := w4.heap.size) (by first | omega | (simp; done) | (simp; omega))
  obtain ⟨qG015, _, yG015⟩ := bcellAt hb15 (b := w5.heap.size) (by first | omega | (simp; done) | (simp; omega))
  obtain ⟨qH015, _, yH015⟩ := bcellAt hb15 (b := w13.heap.size) (by first | omega | (simp; done) | (simp; omega))
  have BB15 := Lib.hid (BB14.out.trans (hbb15.mono (by omega)))
  have kog00_15 := Lib.hid (kog00_14.out.below ig00 (by omega) hbb15)
  have kog01_15 := Lib.hid (kog01_14.out.below ig01 (by omega) hbb15)
  clear hbb15
  go_wp2
  go_ret
  exact ⟨rfl, BB15.out⟩
end Go.Proofs.Ytemdeoeljfcfjaa.fnExactSetRecord
