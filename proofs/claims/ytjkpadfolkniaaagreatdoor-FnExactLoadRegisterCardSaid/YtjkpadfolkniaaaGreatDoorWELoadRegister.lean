/- The walk of the law FnExactLoadRegister: it returns true. -/
import Derived.Test.YtjkpadfolkniaaaGreatDoorLr9
import Derived.Test.YtjkpadfolkniaaaGreatDoorHRegister
import Derived.Test.YtjkpadfolkniaaaGreatDoorReg10
import Derived.Deep.RegionHeld3
namespace Go.Proofs.YtjkpadfolkniaaaGreatDoor.fnExactLoadRegister
open Go.RowKit
set_option linter.unusedVariables false
theorem cnt_rec (l : List DRecord) : cnt (DRecord.sT l) ≤ 16 * siz (DRecord.sT l) := by
  rw [DRecord.siz_s]
  unfold DRecord.sT
  rw [cnt]
  induction l with
  | nil => simp [cntL]
  | cons x l ih => rw [List.flatMap_cons, cntL_append, sizL_append, DRecord.cnt_tr, List.length_cons]; omega
theorem cnt_chg (l : List DChange) : cnt (DChange.sT l) ≤ 16 * siz (DChange.sT l) := by
  rw [DChange.siz_s]
  unfold DChange.sT
  rw [cnt]
  induction l with
  | nil => simp [cntL]
  | cons x l ih => rw [List.flatMap_cons, cntL_append, sizL_append, DChange.cnt_tr, List.length_cons]; omega
theorem cntL_reg (n : DRegister) : cnt (DRecord.sT n.records) + cnt (DChange.sT n.changes) ≤ 16 * sizL n.tr := by
  have h := DRegister.siz_tr n
  have h0 := cnt_rec n.records
  have h1 := cnt_chg n.changes
  omega
theorem sizL_flat {α : Type} (f : α → List Tr) (m : Nat) : ∀ l : List α, (∀ x ∈ l, sizL (f x) ≤ m) → sizL (l.flatMap f) ≤ l.length * m := by
  intro l
  induction l with
  | nil => intro _; simp [sizL]
  | cons x l ih =>
    intro h
    have h1 := h x (by simp)
    have h2 := ih (fun y hy => h y (by simp [hy]))
    rw [List.flatMap_cons, sizL_append, List.length_cons, Nat.succ_mul]; omega
theorem load_ok (t : ByteArray) (ht : t.size ≤ 1048576) : LoadOk 1048576 48 (loadR (bl t)).1 := by
  have hz : LoadOk 1048576 48 zReg := ⟨List.Pairwise.nil, by simp [zReg], by simp [zReg], by simp [zReg], fun x h => by simp [zReg] at h, fun x h => by simp [zReg] at h⟩
  unfold loadR
  split
  · have hl := linesR_len (bl t)
    have := loadK_ok (m := 1048576) (ls := (linesR (bl t)).1) (fun l hl => by have := linesR_mem hl; rw [bl_len] at this; omega) _ (Nat.le_refl _)
    exact ⟨this.rise, this.rcs, this.chg, Nat.le_trans this.few hl, this.recs, this.chgs⟩
  · exact hz
theorem R_siz (t : ByteArray) (ht : t.size ≤ 1048576) : sizL (loadR (bl t)).1.tr ≤ 1073741824 := by
  have h := load_ok t ht
  generalize (loadR (bl t)).1 = r at *
  have h0 := DRegister.siz_tr r
  have h1 := DRecord.siz_s r.records
  have h2 := DChange.siz_s r.changes
  have h3 := sizL_flat DRecord.tr 3000000 r.records (fun x hx => by have := h.recs x hx; show x.key.size + (x.value.size + 0) ≤ _; omega)
  have h4 := sizL_flat DChange.tr 4000000 r.changes (fun x hx => by have := h.chgs x hx; show 0 + (x.key.size + (x.old_.size + (x.new_.size + 0))) ≤ _; omega)
  have h5 := h.rcs
  have h6 := h.chg
  have h7 : r.records.length * 3000000 ≤ 32 * 3000000 := Nat.mul_le_mul_right _ h5
  have h8 : r.changes.length * 4000000 ≤ 48 * 4000000 := Nat.mul_le_mul_right _ h6
  omega

set_option maxHeartbeats 4000000 in
set_option maxRecDepth 100000 in
theorem walk (t : ByteArray) (w : World) (L : LibW w) (hk_t : t.size ≤ maxLen) :
    Calls Tryz.prog 4 #[.string t] w fun e w' => e = .returned (.bool true) ∧ Below w.heap.size w w' := by
  unfold maxLen at hk_t
  have HL := Lib.hid L
  clear L
  have hRs := R_siz t
  have hRc := cntL_reg (loadR (bl t)).1
  have hR0 := DRegister.siz_tr (loadR (bl t)).1
  have BB0 : Hid (Below w.heap.size w w) := Below.refl _ _
  generalize hR : loadR (bl t) = R at *
  have HR := Lib.hid hR
  clear hR
  have HS : Hid (∀ (W : World), t.size ≤ 1048576 → Calls Tryz.prog 10 #[.string t] W (fun e w' => ∃ a0_0 c0_0 a0_1 c0_1 fp0, e = .returned (.tuple #[.agg #[.slice a0_0 R.1.records.length c0_0, .slice a0_1 R.1.changes.length c0_1], .int .i64 R.2.1, .int .i64 R.2.2]) ∧ Below W.heap.size W w' ∧ OwnV w' R.1.tr [.slice a0_0 R.1.records.length c0_0, .slice a0_1 R.1.changes.length c0_1] fp0 ∧ In W.heap.size w'.heap.size fp0)) := fun W z0 => by rw [← HR.out]; exact sLoadRegister_any t z0 W
  have HI : Hid (∀ (W : World), LibW W → t.size ≤ 1048576 → Calls Tryz.prog 11 #[.string t] W (fun e w' => ∃ a0_0 c0_0 a0_1 c0_1 fp0, e = .returned (.tuple #[.agg #[.slice a0_0 R.1.records.length c0_0, .slice a0_1 R.1.changes.length c0_1], .int .i64 R.2.1, .int .i64 R.2.2]) ∧ Below W.heap.size W w' ∧ OwnV w' R.1.tr [.slice a0_0 R.1.records.length c0_0, .slice a0_1 R.1.changes.length c0_1] fp0 ∧ In W.heap.size w'.heap.size fp0)) := fun W hW z0 => by rw [← HR.out]; exact iLoadRegister_any t z0 W hW
  by_cases hl_t : t.size ≤ 1048576
  case neg =>
    have hl1_t : (1048576 : Int) < ((t.size : Nat) : Int) := by omega
    have hl2_t : 1048576 < t.size := by omega
    go_enter Tryz.func4, Tryz.ntmps4
    go_wp2
    go_ret
    exact ⟨rfl, Below.refl _ _⟩
  have hl1_t : ((t.size : Nat) : Int) ≤ 1048576 := by omega
  have hRs2 := hRs hl_t
  clear hRs
  go_enter Tryz.func4, Tryz.ntmps4
  go_wp2_with fail
  refine (HS.out _   (by omega)).mono ?_
  rintro e w1 ⟨as00, cs00, as01, cs01, fs0, rfl, hb1, ov1, iv1⟩
  have hbb1 : Below w.heap.size w w1 := hb1
  have z1 := hbb1.size
  have BB1 := Lib.hid (BB0.out.trans (hbb1.mono (by omega)))
  clear hbb1
  obtain ⟨g1_0, r1_0, e1_0, p1_0, ov1_0, d1_0⟩ := OwnV.uncons ov1
  obtain ⟨g1_1, r1_1, e1_1, p1_1, ov1_1, d1_1⟩ := OwnV.uncons ov1_0
  have iw1 := iv1.mono (lo' := w.heap.size + 0) (by first | omega | (simp; done) | (simp; omega)) (Nat.le_refl _)
  have hnil1 := ov1_1.rep
  change r1_1 = [] at hnil1
  subst hnil1
  subst e1_1
  subst e1_0
  have is00 : In _ _ g1_0 := fun y hy => iw1 y (by simp [hy])
  have os00_1 := Lib.hid p1_0
  have is01 : In _ _ g1_1 := fun y hy => iw1 y (by simp [hy])
  have os01_1 := Lib.hid p1_1
  have djs00_1 : ∀ y ∈ g1_0, y ∉ g1_1 := fun y hy e => d1_0 y hy (by simp [e])
  clear p1_0 ov1_0 d1_0 p1_1 ov1_1 d1_1 ov1 iv1 iw1
  go_wp2_with fail
  refine (HI.out _ (HL.out.mono (BB1.out.alloc (by omega) _)) (by omega)).mono ?_
  rintro e w2 ⟨ag00, cg00, ag01, cg01, fg0, rfl, hb2, ov2, iv2⟩
  have hx2 : Below w1.heap.size w1 (w1.alloc (.cells #[.slice as00 R.1.records.length cs00, .slice as01 R.1.changes.length cs01] 31)) := ((Below.refl _ _).alloc (Nat.le_refl _) _)
  have hbb2 : Below w1.heap.size w1 w2 := hx2.trans (hb2.mono (by first | (simp; done) | (simp; omega)))
  have z2 := hbb2.size
  obtain ⟨qS02, _, yS02⟩ := bcellAt hb2 (b := w1.heap.size) (by first | omega | (simp; done) | (simp; omega))
  have BB2 := Lib.hid (BB1.out.trans (hbb2.mono (by omega)))
  have os00_2 := Lib.hid (os00_1.out.below is00 (by omega) hbb2)
  have os01_2 := Lib.hid (os01_1.out.below is01 (by omega) hbb2)
  clear hx2
  clear hb2 hbb2
  obtain ⟨g2_0, r2_0, e2_0, p2_0, ov2_0, d2_0⟩ := OwnV.uncons ov2
  obtain ⟨g2_1, r2_1, e2_1, p2_1, ov2_1, d2_1⟩ := OwnV.uncons ov2_0
  have iw2 := iv2.mono (lo' := w1.heap.size + 1) (by first | omega | (simp; done) | (simp; omega)) (Nat.le_refl _)
  have hnil2 := ov2_1.rep
  change r2_1 = [] at hnil2
  subst hnil2
  subst e2_1
  subst e2_0
  have ig00 : In _ _ g2_0 := fun y hy => iw2 y (by simp [hy])
  have og00_2 := Lib.hid p2_0
  have ig01 : In _ _ g2_1 := fun y hy => iw2 y (by simp [hy])
  have og01_2 := Lib.hid p2_1
  have djg00_1 : ∀ y ∈ g2_0, y ∉ g2_1 := fun y hy e => d2_0 y hy (by simp [e])
  clear p2_0 ov2_0 d2_0 p2_1 ov2_1 d2_1 ov2 iv2 iw2
  go_wp2_with fail
  refine ((eq_Register R.1 _ _ _ _ (w2.alloc (.cells #[.slice ag00 R.1.records.length cg00, .slice ag01 R.1.changes.length cg01] 31)).heap.size _ (((og00_2.out.below ig00 (by omega) ((Below.refl _ _).alloc (Nat.le_refl _) _)).rd ig00).mono (by first | omega | (simp; done) | (simp; omega))) (((os00_2.out.below is00 (by omega) ((Below.refl _ _).alloc (Nat.le_refl _) _)).rd is00).mono (by first | omega | (simp; done) | (simp; omega))) (((og01_2.out.below ig01 (by omega) ((Below.refl _ _).alloc (Nat.le_refl _) _)).rd ig01).mono (by first | omega | (simp; done) | (simp; omega))) (((os01_2.out.below is01 (by omega) ((Below.refl _ _).alloc (Nat.le_refl _) _)).rd is01).mono (by first | omega | (simp; done) | (simp; omega))) (Nat.le_refl _) (by omega))).mono ?_
  rintro e w3 ⟨rfl, hb3⟩
  have hx3 : Below w2.heap.size w2 (w2.alloc (.cells #[.slice ag00 R.1.records.length cg00, .slice ag01 R.1.changes.length cg01] 31)) := ((Below.refl _ _).alloc (Nat.le_refl _) _)
  have hbb3 : Below w2.heap.size w2 w3 := hx3.trans (hb3.mono (by first | (simp; done) | (simp; omega)))
  have z3 := hbb3.size
  obtain ⟨qS03, _, yS03⟩ := bcellAt hb3 (b := w1.heap.size) (by first | omega | (simp; done) | (simp; omega))
  obtain ⟨qG03, _, yG03⟩ := bcellAt hb3 (b := w2.heap.size) (by first | omega | (simp; done) | (simp; omega))
  have BB3 := Lib.hid (BB2.out.trans (hbb3.mono (by omega)))
  have os00_3 := Lib.hid (os00_2.out.below is00 (by omega) hbb3)
  have os01_3 := Lib.hid (os01_2.out.below is01 (by omega) hbb3)
  have og00_3 := Lib.hid (og00_2.out.below ig00 (by omega) hbb3)
  have og01_3 := Lib.hid (og01_2.out.below ig01 (by omega) hbb3)
  clear hx3
  clear hb3 hbb3
  go_wp2_with fail
  refine (mark_Register R.1 _ _ g2_0 g2_1 (1) _ _ _ _ _ og00_3.out ig00 (by first | omega | (simp; done) | (simp; omega)) og01_3.out ig01 (by first | omega | (simp; done) | (simp; omega)) djg00_1 (by omega) (by omega) (by omega)).mono ?_
  rintro e w4 ⟨rfl, mg00, mg01, hc4⟩
  have hcc4 : Chg (g2_0 ++ g2_1) w3 w4 := hc4
  have z4 := hcc4.size
  have hkS04 := hc4.block (w1.heap.size) (by first | omega | (simp; done) | (simp; omega)) (fun e => by simp only [List.mem_append] at e; rcases e with (e | e) <;> first | (have h2 := ig00 _ e; omega) | (have h2 := ig01 _ e; omega))
  have qS04 : ∀ o, w4.cell? ⟨w1.heap.size, o, none⟩ = _ := fun o => World.cell?_of_block (a := ⟨w1.heap.size, o, none⟩) hkS04
  have yS04 : w1.heap.size < w4.heap.size := by first | omega | (have := hc4.size; simp at this; omega)
  clear hkS04
  have hkG04 := hc4.block (w2.heap.size) (by first | omega | (simp; done) | (simp; omega)) (fun e => by simp only [List.mem_append] at e; rcases e with (e | e) <;> first | (have h2 := ig00 _ e; omega) | (have h2 := ig01 _ e; omega))
  have qG04 : ∀ o, w4.cell? ⟨w2.heap.size, o, none⟩ = _ := fun o => World.cell?_of_block (a := ⟨w2.heap.size, o, none⟩) hkG04
  have yG04 : w2.heap.size < w4.heap.size := by first | omega | (have := hc4.size; simp at this; omega)
  clear hkG04
  have BB4 := Lib.hid (BB3.out.trans (hcc4.below (by omega) (fun x hx => by simp only [List.mem_append] at hx; rcases hx with (hx | hx) <;> first | (have h2 := ig00 x hx; omega) | (have h2 := ig01 x hx; omega))))
  have os00_4 := Lib.hid (os00_3.out.chg is00 (by omega) hcc4 (fun x hx e => by have hx0 := is00 x hx; simp only [List.mem_append] at e; rcases e with (e | e) <;> first | (have h2 := ig00 x e; omega) | (have h2 := ig01 x e; omega)))
  have os01_4 := Lib.hid (os01_3.out.chg is01 (by omega) hcc4 (fun x hx e => by have hx0 := is01 x hx; simp only [List.mem_append] at e; rcases e with (e | e) <;> first | (have h2 := ig00 x e; omega) | (have h2 := ig01 x e; omega)))
  clear hcc4
  have kog00_4 := Lib.hid mg00
  clear mg00
  have kog01_4 := Lib.hid mg01
  clear mg01
  go_wp2_with fail
  refine (held_Register R.1 _ _ w4.heap.size (1) _ ((kog00_4.out.rd ig00).mono (by omega)) ((kog01_4.out.rd ig01).mono (by omega)) (Nat.le_refl _) (by omega) (by omega) (by omega)).mono ?_
  rintro e w5 ⟨rfl, hb5⟩
  have hbb5 : Below w4.heap.size w4 w5 := hb5
  have z5 := hbb5.size
  obtain ⟨qS05, _, yS05⟩ := bcellAt hb5 (b := w1.heap.size) (by first | omega | (simp; done) | (simp; omega))
  obtain ⟨qG05, _, yG05⟩ := bcellAt hb5 (b := w2.heap.size) (by first | omega | (simp; done) | (simp; omega))
  have BB5 := Lib.hid (BB4.out.trans (hbb5.mono (by omega)))
  have os00_5 := Lib.hid (os00_4.out.below is00 (by omega) hbb5)
  have os01_5 := Lib.hid (os01_4.out.below is01 (by omega) hbb5)
  have kog00_5 := Lib.hid (kog00_4.out.below ig00 (by omega) hbb5)
  have kog01_5 := Lib.hid (kog01_4.out.below ig01 (by omega) hbb5)
  clear hbb5
  go_wp2_with fail
  refine (HI.out _ (HL.out.mono BB5.out) (by omega)).mono ?_
  rintro e w6 ⟨ah00, ch00, ah01, ch01, fh0, rfl, hb6, ov6, iv6⟩
  have hbb6 : Below w5.heap.size w5 w6 := hb6
  have z6 := hbb6.size
  obtain ⟨qS06, _, yS06⟩ := bcellAt hb6 (b := w1.heap.size) (by first | omega | (simp; done) | (simp; omega))
  obtain ⟨qG06, _, yG06⟩ := bcellAt hb6 (b := w2.heap.size) (by first | omega | (simp; done) | (simp; omega))
  have BB6 := Lib.hid (BB5.out.trans (hbb6.mono (by omega)))
  have os00_6 := Lib.hid (os00_5.out.below is00 (by omega) hbb6)
  have os01_6 := Lib.hid (os01_5.out.below is01 (by omega) hbb6)
  have kog00_6 := Lib.hid (kog00_5.out.below ig00 (by omega) hbb6)
  have kog01_6 := Lib.hid (kog01_5.out.below ig01 (by omega) hbb6)
  clear hbb6
  obtain ⟨g6_0, r6_0, e6_0, p6_0, ov6_0, d6_0⟩ := OwnV.uncons ov6
  obtain ⟨g6_1, r6_1, e6_1, p6_1, ov6_1, d6_1⟩ := OwnV.uncons ov6_0
  have iw6 := iv6.mono (lo' := w5.heap.size + 0) (by first | omega | (simp; done) | (simp; omega)) (Nat.le_refl _)
  have hnil6 := ov6_1.rep
  change r6_1 = [] at hnil6
  subst hnil6
  subst e6_1
  subst e6_0
  have ih00 : In _ _ g6_0 := fun y hy => iw6 y (by simp [hy])
  have oh00_6 := Lib.hid p6_0
  have ih01 : In _ _ g6_1 := fun y hy => iw6 y (by simp [hy])
  have oh01_6 := Lib.hid p6_1
  have djh00_1 : ∀ y ∈ g6_0, y ∉ g6_1 := fun y hy e => d6_0 y hy (by simp [e])
  clear p6_0 ov6_0 d6_0 p6_1 ov6_1 d6_1 ov6 iv6 iw6
  go_wp2_with fail
  refine ((eq_Register R.1 _ _ _ _ (w6.alloc (.cells #[.slice ah00 R.1.records.length ch00, .slice ah01 R.1.changes.length ch01] 31)).heap.size _ (((oh00_6.out.below ih00 (by omega) ((Below.refl _ _).alloc (Nat.le_refl _) _)).rd ih00).mono (by first | omega | (simp; done) | (simp; omega))) (((os00_6.out.below is00 (by omega) ((Below.refl _ _).alloc (Nat.le_refl _) _)).rd is00).mono (by first | omega | (simp; done) | (simp; omega))) (((oh01_6.out.below ih01 (by omega) ((Below.refl _ _).alloc (Nat.le_refl _) _)).rd ih01).mono (by first | omega | (simp; done) | (simp; omega))) (((os01_6.out.below is01 (by omega) ((Below.refl _ _).alloc (Nat.le_refl _) _)).rd is01).mono (by first | omega | (simp; done) | (simp; omega))) (Nat.le_refl _) (by omega))).mono ?_
  rintro e w7 ⟨rfl, hb7⟩
  have hx7 : Below w6.heap.size w6 (w6.alloc (.cells #[.slice ah00 R.1.records.length ch00, .slice ah01 R.1.changes.length ch01] 31)) := ((Below.refl _ _).alloc (Nat.le_refl _) _)
  have hbb7 : Below w6.heap.size w6 w7 := hx7.trans (hb7.mono (by first | (simp; done) | (simp; omega)))
  have z7 := hbb7.size
  obtain ⟨qS07, _, yS07⟩ := bcellAt hb7 (b := w1.heap.size) (by first | omega | (simp; done) | (simp; omega))
  obtain ⟨qG07, _, yG07⟩ := bcellAt hb7 (b := w2.heap.size) (by first | omega | (simp; done) | (simp; omega))
  obtain ⟨qH07, _, yH07⟩ := bcellAt hb7 (b := w6.heap.size) (by first | omega | (simp; done) | (simp; omega))
  have BB7 := Lib.hid (BB6.out.trans (hbb7.mono (by omega)))
  have os00_7 := Lib.hid (os00_6.out.below is00 (by omega) hbb7)
  have os01_7 := Lib.hid (os01_6.out.below is01 (by omega) hbb7)
  have kog00_7 := Lib.hid (kog00_6.out.below ig00 (by omega) hbb7)
  have kog01_7 := Lib.hid (kog01_6.out.below ig01 (by omega) hbb7)
  have oh00_7 := Lib.hid (oh00_6.out.below ih00 (by omega) hbb7)
  have oh01_7 := Lib.hid (oh01_6.out.below ih01 (by omega) hbb7)
  clear hx7
  clear hb7 hbb7
  go_wp2_with fail
  refine (held_Register R.1 _ _ w7.heap.size (1) _ ((kog00_7.out.rd ig00).mono (by omega)) ((kog01_7.out.rd ig01).mono (by omega)) (Nat.le_refl _) (by omega) (by omega) (by omega)).mono ?_
  rintro e w8 ⟨rfl, hb8⟩
  have hbb8 : Below w7.heap.size w7 w8 := hb8
  have z8 := hbb8.size
  obtain ⟨qS08, _, yS08⟩ := bcellAt hb8 (b := w1.heap.size) (by first | omega | (simp; done) | (simp; omega))
  obtain ⟨qG08, _, yG08⟩ := bcellAt hb8 (b := w2.heap.size) (by first | omega | (simp; done) | (simp; omega))
  obtain ⟨qH08, _, yH08⟩ := bcellAt hb8 (b := w6.heap.size) (by first | omega | (simp; done) | (simp; omega))
  have BB8 := Lib.hid (BB7.out.trans (hbb8.mono (by omega)))
  have kog00_8 := Lib.hid (kog00_7.out.below ig00 (by omega) hbb8)
  have kog01_8 := Lib.hid (kog01_7.out.below ig01 (by omega) hbb8)
  clear hbb8
  go_wp2
  go_ret
  exact ⟨rfl, BB8.out⟩
end Go.Proofs.YtjkpadfolkniaaaGreatDoor.fnExactLoadRegister
