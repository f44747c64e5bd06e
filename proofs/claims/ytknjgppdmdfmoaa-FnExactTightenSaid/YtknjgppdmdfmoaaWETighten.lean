/- The walk of the law FnExactTighten: it returns true. -/
import Derived.Test.YtknjgppdmdfmoaaTight2
import Derived.Test.YtknjgppdmdfmoaaHProblem
namespace Go.Proofs.Ytknjgppdmdfmoaa.fnExactTighten
open Go.RowKit
set_option linter.unusedVariables false
theorem tightR_siz (p : DProblem) (x y z : Int) : sizL (tightR p x y z).1.tr ≤ sizL p.tr := by
  have key : ∀ (m : List (List Int)) (i j : Nat) (u : Int), siz (intssT (set2 m i j u)) = siz (intssT m) := by
    intro m i j u
    rw [siz_intss, siz_intss, set2_len]
    congr 1
    unfold sumLen set2 row
    by_cases h : i < m.length
    · rw [List.map_set]
      have : (m.map List.length).set i ((m.getD i []).set j u).length = m.map List.length := by
        apply List.ext_getElem
        · simp
        · intro k h1 h2
          rw [List.getElem_set]
          split
          · rename_i e; subst e; simp [h]
          · rfl
      rw [this]
    · rw [List.set_eq_of_length_le (by omega)]
  rw [DProblem.siz_tr, DProblem.siz_tr]
  unfold tightR
  split
  · split
    · simp only [key]; omega
    · simp only [siz_intss, sumLen]; simp
  · simp only [siz_intss, sumLen]; simp
theorem cnt_le_siz (m : List (List Int)) : cnt (intssT m) ≤ siz (intssT m) := by rw [cnt_intss, siz_intss]; omega
set_option maxHeartbeats 4000000 in
theorem walk (p : DProblem) (x y z : Int) (vp0 vp1 : Value) (w : World) (hp0 : Rd w.heap.size w (intssT p.domains) vp0) (hp1 : Rd w.heap.size w (intssT p.apart) vp1) (hok : p.ok) (hx : I64 x) (hy : I64 y) (hz : I64 z) :
    Calls Try.prog 3 #[.agg #[vp0, vp1], .int .i64 x, .int .i64 y, .int .i64 z] w fun e w' => e = .returned (.bool true) ∧ Below w.heap.size w w' := by
  have Hp0 := Lib.hid hp0
  have Hp1 := Lib.hid hp1
  have hRs := tightR_siz p x y z
  have hR0 := DProblem.siz_tr (tightR p x y z).1
  have hp := DProblem.siz_tr p
  have hc0 := cnt_le_siz (tightR p x y z).1.domains
  have hc1 := cnt_le_siz (tightR p x y z).1.apart
  have hc2 := cnt_le_siz p.domains
  have hc3 := cnt_le_siz p.apart
  clear hp0 hp1
  have BB0 : Hid (Below w.heap.size w w) := Below.refl _ _
  generalize hR : tightR p x y z = R at *
  have HR := Lib.hid hR
  clear hR
  go_enter Try.func3, Try.ntmps3
  go_wp2_with fail
  have BX1 : Hid (Below w.heap.size w (w.alloc (.cells #[vp0, vp1] 24))) := (BB0.out.alloc (by first | omega | (simp; done) | (simp; omega)) _)
  have zx1 := BX1.out.size
  refine (sz_Problem p vp0 vp1 w.heap.size _ _ (Hp0.out.below BX1.out) (Hp1.out.below BX1.out) (by omega) (by omega) (by omega) hok).mono ?_
  rintro e w1 ⟨⟨cz, rfl⟩ | ⟨cz, rfl⟩, hb1⟩
  case inr =>
    go_wp2
    go_ret
    exact ⟨rfl, BX1.out.trans (hb1.mono (by omega))⟩
  have cz' : decide ((1048576 : Int) - sizL p.tr < 0) = false := by simp; omega
  have hx1 : Below w.heap.size w (w.alloc (.cells #[vp0, vp1] 24)) := ((Below.refl _ _).alloc (Nat.le_refl _) _)
  have hbb1 : Below w.heap.size w w1 := hx1.trans (hb1.mono (by first | (simp; done) | (simp; omega)))
  have z1 := hbb1.size
  obtain ⟨qA1, _, yA1⟩ := bcellAt hb1 (b := w.heap.size) (by first | omega | (simp; done) | (simp; omega))
  have BB1 := Lib.hid (BB0.out.trans (hbb1.mono (by omega)))
  clear hx1
  clear hb1 hbb1
  go_wp2_with fail
  have BX2 : Hid (Below w.heap.size w w1) := BB1.out
  have zx2 := BX2.out.size
  refine (to_Problem p vp0 vp1 _ ((Hp0.out.below BX2.out).mono zx2) ((Hp1.out.below BX2.out).mono zx2) (by omega)).mono ?_
  rintro e w2 ⟨at0, ct0, at1, ct1, ft, rfl, hb2, ov2, iv2⟩
  have hbb2 : Below w1.heap.size w1 w2 := hb2
  have z2 := hbb2.size
  obtain ⟨qA2, _, yA2⟩ := bcellAt hb2 (b := w.heap.size) (by first | omega | (simp; done) | (simp; omega))
  have BB2 := Lib.hid (BB1.out.trans (hbb2.mono (by omega)))
  clear hbb2
  obtain ⟨g2_0, r2_0, e2_0, p2_0, ov2_0, d2_0⟩ := OwnV.uncons ov2
  obtain ⟨g2_1, r2_1, e2_1, p2_1, ov2_1, d2_1⟩ := OwnV.uncons ov2_0
  have iw2 := iv2.mono (lo' := w1.heap.size + 0) (by first | omega | (simp; done) | (simp; omega)) (Nat.le_refl _)
  have hnil2 := ov2_1.rep
  change r2_1 = [] at hnil2
  subst hnil2
  subst e2_1
  subst e2_0
  have it0 : In _ _ g2_0 := fun y hy => iw2 y (by simp [hy])
  have ot0_2 := Lib.hid p2_0
  have it1 : In _ _ g2_1 := fun y hy => iw2 y (by simp [hy])
  have ot1_2 := Lib.hid p2_1
  have djt0_1 : ∀ y ∈ g2_0, y ∉ g2_1 := fun y hy e => d2_0 y hy (by simp [e])
  clear p2_0 ov2_0 d2_0 p2_1 ov2_1 d2_1 ov2 iv2 iw2
  have HS : ∀ (W : World) (d a : Value), Rd W.heap.size W (intssT p.domains) d → Rd W.heap.size W (intssT p.apart) a → siz (intssT p.domains) ≤ 1048576 → siz (intssT p.apart) ≤ 1048576 → Calls Try.prog 7 #[.agg #[d, a], .int .i64 x, .int .i64 y, .int .i64 z] W (NewP R W) := fun W d a h1 h2 h3 h4 => by rw [← HR.out]; exact sTighten_any p d a x y z W h1 h2 h3 h4
  have HI : ∀ (W : World) (d a : Value), Rd W.heap.size W (intssT p.domains) d → Rd W.heap.size W (intssT p.apart) a → siz (intssT p.domains) ≤ 1048576 → siz (intssT p.apart) ≤ 1048576 → Calls Try.prog 9 #[.agg #[d, a], .int .i64 x, .int .i64 y, .int .i64 z] W (NewP R W) := fun W d a h1 h2 h3 h4 => by rw [← HR.out]; exact iTighten_any p d a x y z W h1 h2 h3 h4
  have HSh := Lib.hid HS
  have HIh := Lib.hid HI
  clear HS HI
  go_wp2_with fail
  refine (HSh.out _ _ _ ((ot0_2.out.rd it0).mono (by omega)) ((ot1_2.out.rd it1).mono (by omega)) (by omega) (by omega)).mono ?_
  rintro e w3 ⟨as0, cs0, as1, cs1, fs0, fs1, rfl, hb3, ou3, ov3, iqs0, iqs1, djs0_1⟩
  have is0 := iqs0.mono (lo' := w2.heap.size + 0) (by first | omega | (simp; done) | (simp; omega)) (Nat.le_refl _)
  clear iqs0
  have is1 := iqs1.mono (lo' := w2.heap.size + 0) (by first | omega | (simp; done) | (simp; omega)) (Nat.le_refl _)
  clear iqs1
  have hbb3 : Below w2.heap.size w2 w3 := hb3
  have z3 := hbb3.size
  obtain ⟨qA3, _, yA3⟩ := bcellAt hb3 (b := w.heap.size) (by first | omega | (simp; done) | (simp; omega))
  have BB3 := Lib.hid (BB2.out.trans (hbb3.mono (by omega)))
  have ot0_3 := Lib.hid (ot0_2.out.below it0 (by omega) hbb3)
  have ot1_3 := Lib.hid (ot1_2.out.below it1 (by omega) hbb3)
  clear hbb3
  have os0_3 := Lib.hid ou3
  have os1_3 := Lib.hid ov3
  clear ou3 ov3
  go_wp2_with fail
  have BX4 : Hid (Below w.heap.size w (w3.alloc (.cells #[.slice as0 R.1.domains.length cs0, .slice as1 R.1.apart.length cs1] 26))) := (BB3.out.alloc (by first | omega | (simp; done) | (simp; omega)) _)
  have zx4 := BX4.out.size
  refine (to_Problem p vp0 vp1 _ ((Hp0.out.below BX4.out).mono zx4) ((Hp1.out.below BX4.out).mono zx4) (by omega)).mono ?_
  rintro e w4 ⟨au0, cu0, au1, cu1, fu, rfl, hb4, ov4, iv4⟩
  have hx4 : Below w3.heap.size w3 (w3.alloc (.cells #[.slice as0 R.1.domains.length cs0, .slice as1 R.1.apart.length cs1] 26)) := ((Below.refl _ _).alloc (Nat.le_refl _) _)
  have hbb4 : Below w3.heap.size w3 w4 := hx4.trans (hb4.mono (by first | (simp; done) | (simp; omega)))
  have z4 := hbb4.size
  obtain ⟨qA4, _, yA4⟩ := bcellAt hb4 (b := w.heap.size) (by first | omega | (simp; done) | (simp; omega))
  obtain ⟨qS4, _, yS4⟩ := bcellAt hb4 (b := w3.heap.size) (by first | omega | (simp; done) | (simp; omega))
  have BB4 := Lib.hid (BB3.out.trans (hbb4.mono (by omega)))
  have os0_4 := Lib.hid (os0_3.out.below is0 (by omega) hbb4)
  have os1_4 := Lib.hid (os1_3.out.below is1 (by omega) hbb4)
  clear hx4
  clear hb4 hbb4
  obtain ⟨g4_0, r4_0, e4_0, p4_0, ov4_0, d4_0⟩ := OwnV.uncons ov4
  obtain ⟨g4_1, r4_1, e4_1, p4_1, ov4_1, d4_1⟩ := OwnV.uncons ov4_0
  have iw4 := iv4.mono (lo' := w3.heap.size + 1) (by first | omega | (simp; done) | (simp; omega)) (Nat.le_refl _)
  have hnil4 := ov4_1.rep
  change r4_1 = [] at hnil4
  subst hnil4
  subst e4_1
  subst e4_0
  have iu0 : In _ _ g4_0 := fun y hy => iw4 y (by simp [hy])
  have ou0_4 := Lib.hid p4_0
  have iu1 : In _ _ g4_1 := fun y hy => iw4 y (by simp [hy])
  have ou1_4 := Lib.hid p4_1
  have dju0_1 : ∀ y ∈ g4_0, y ∉ g4_1 := fun y hy e => d4_0 y hy (by simp [e])
  clear p4_0 ov4_0 d4_0 p4_1 ov4_1 d4_1 ov4 iv4 iw4
  go_wp2_with fail
  refine (HIh.out _ _ _ (((ou0_4.out.below iu0 (by omega) ((Below.refl _ _).alloc (Nat.le_refl _) _)).rd iu0).mono (by first | omega | (simp; done) | (simp; omega))) (((ou1_4.out.below iu1 (by omega) ((Below.refl _ _).alloc (Nat.le_refl _) _)).rd iu1).mono (by first | omega | (simp; done) | (simp; omega))) (by omega) (by omega)).mono ?_
  rintro e w5 ⟨ag0, cg0, ag1, cg1, fg0, fg1, rfl, hb5, ou5, ov5, iqg0, iqg1, djg0_1⟩
  have ig0 := iqg0.mono (lo' := w4.heap.size + 1) (by first | omega | (simp; done) | (simp; omega)) (Nat.le_refl _)
  clear iqg0
  have ig1 := iqg1.mono (lo' := w4.heap.size + 1) (by first | omega | (simp; done) | (simp; omega)) (Nat.le_refl _)
  clear iqg1
  have hx5 : Below w4.heap.size w4 (w4.alloc (.cells #[.slice au0 p.domains.length cu0, .slice au1 p.apart.length cu1] 26)) := ((Below.refl _ _).alloc (Nat.le_refl _) _)
  have hbb5 : Below w4.heap.size w4 w5 := hx5.trans (hb5.mono (by first | (simp; done) | (simp; omega)))
  have z5 := hbb5.size
  obtain ⟨qA5, _, yA5⟩ := bcellAt hb5 (b := w.heap.size) (by first | omega | (simp; done) | (simp; omega))
  obtain ⟨qS5, _, yS5⟩ := bcellAt hb5 (b := w3.heap.size) (by first | omega | (simp; done) | (simp; omega))
  obtain ⟨qU5, _, yU5⟩ := bcellAt hb5 (b := w4.heap.size) (by first | omega | (simp; done) | (simp; omega))
  have BB5 := Lib.hid (BB4.out.trans (hbb5.mono (by omega)))
  have os0_5 := Lib.hid (os0_4.out.below is0 (by omega) hbb5)
  have os1_5 := Lib.hid (os1_4.out.below is1 (by omega) hbb5)
  have ou0_5 := Lib.hid (ou0_4.out.below iu0 (by omega) hbb5)
  have ou1_5 := Lib.hid (ou1_4.out.below iu1 (by omega) hbb5)
  clear hx5
  clear hb5 hbb5
  have og0_5 := Lib.hid ou5
  have og1_5 := Lib.hid ov5
  clear ou5 ov5
  go_wp2_with fail
  refine ((eq_Problem R.1 _ _ _ _ (w5.alloc (.cells #[.slice ag0 R.1.domains.length cg0, .slice ag1 R.1.apart.length cg1] 26)).heap.size _ (((og0_5.out.below ig0 (by omega) ((Below.refl _ _).alloc (Nat.le_refl _) _)).rd ig0).mono (by first | omega | (simp; done) | (simp; omega))) (((os0_5.out.below is0 (by omega) ((Below.refl _ _).alloc (Nat.le_refl _) _)).rd is0).mono (by first | omega | (simp; done) | (simp; omega))) (((og1_5.out.below ig1 (by omega) ((Below.refl _ _).alloc (Nat.le_refl _) _)).rd ig1).mono (by first | omega | (simp; done) | (simp; omega))) (((os1_5.out.below is1 (by omega) ((Below.refl _ _).alloc (Nat.le_refl _) _)).rd is1).mono (by first | omega | (simp; done) | (simp; omega))) (Nat.le_refl _) (by omega))).mono ?_
  rintro e w6 ⟨rfl, hb6⟩
  have hx6 : Below w5.heap.size w5 (w5.alloc (.cells #[.slice ag0 R.1.domains.length cg0, .slice ag1 R.1.apart.length cg1] 26)) := ((Below.refl _ _).alloc (Nat.le_refl _) _)
  have hbb6 : Below w5.heap.size w5 w6 := hx6.trans (hb6.mono (by first | (simp; done) | (simp; omega)))
  have z6 := hbb6.size
  obtain ⟨qA6, _, yA6⟩ := bcellAt hb6 (b := w.heap.size) (by first | omega | (simp; done) | (simp; omega))
  obtain ⟨qS6, _, yS6⟩ := bcellAt hb6 (b := w3.heap.size) (by first | omega | (simp; done) | (simp; omega))
  obtain ⟨qU6, _, yU6⟩ := bcellAt hb6 (b := w4.heap.size) (by first | omega | (simp; done) | (simp; omega))
  obtain ⟨qG6, _, yG6⟩ := bcellAt hb6 (b := w5.heap.size) (by first | omega | (simp; done) | (simp; omega))
  have BB6 := Lib.hid (BB5.out.trans (hbb6.mono (by omega)))
  have os0_6 := Lib.hid (os0_5.out.below is0 (by omega) hbb6)
  have os1_6 := Lib.hid (os1_5.out.below is1 (by omega) hbb6)
  have ou0_6 := Lib.hid (ou0_5.out.below iu0 (by omega) hbb6)
  have ou1_6 := Lib.hid (ou1_5.out.below iu1 (by omega) hbb6)
  have og0_6 := Lib.hid (og0_5.out.below ig0 (by omega) hbb6)
  have og1_6 := Lib.hid (og1_5.out.below ig1 (by omega) hbb6)
  clear hx6
  clear hb6 hbb6
  clear cz'
  have hcf : w6.cell? ⟨w4.heap.size, 0, none⟩ = some (.slice au0 p.domains.length cu0) ∧ w6.cell? ⟨w4.heap.size, 1, none⟩ = some (.slice au1 p.apart.length cu1) ∧ w6.cell? ⟨w.heap.size, 0, none⟩ = some vp0 ∧ w6.cell? ⟨w.heap.size, 1, none⟩ = some vp1 := by refine ⟨?_, ?_, ?_, ?_⟩ <;> simp [go_sem, *]
  go_wp2
  have hsame : Below w6.heap.size w6 w6.drew := ⟨rfl, rfl, rfl, Nat.le_refl _, fun _ _ => rfl⟩
  have BBd := Lib.hid BB6.out.drew
  have HTO := Lib.hid (to_Problem p vp0 vp1 w6.drew ((Hp0.out.below BBd.out).mono (by show w.heap.size ≤ w6.heap.size; omega)) ((Hp1.out.below BBd.out).mono (by show w.heap.size ≤ w6.heap.size; omega)) (by omega))
  have HEQ : Hid (∀ (W : World) (a b c d : Value), Below w6.heap.size w6 W → RdV W.heap.size W p.tr [b, d] → a = .slice au0 p.domains.length cu0 → c = .slice au1 p.apart.length cu1 → Calls Try.prog 10 #[.agg #[a, c], .agg #[b, d]] W fun e w' => e = .returned (.bool true) ∧ Below W.heap.size W w') := fun W a b c d hW hr ea ec => by
    subst ea ec
    have hzW := hW.size
    exact eq_Problem p _ _ _ _ W.heap.size W (((ou0_6.out.below iu0 (by omega) hW).rd iu0).mono (by omega)) hr.1 (((ou1_6.out.below iu1 (by omega) hW).rd iu1).mono (by omega)) hr.2.1 (Nat.le_refl _) (by omega)
  go_region_held3 (fun W => W.cell? ⟨w4.heap.size, 0, none⟩ = some (.slice au0 p.domains.length cu0) ∧ W.cell? ⟨w4.heap.size, 1, none⟩ = some (.slice au1 p.apart.length cu1) ∧ W.cell? ⟨w.heap.size, 0, none⟩ = some vp0 ∧ W.cell? ⟨w.heap.size, 1, none⟩ = some vp1) (first | exact hcf | (refine ⟨?_, ?_, ?_, ?_⟩ <;> simp [go_sem, *]))
    (first
      | (go_at_call 8; refine (HTO.out).mono ?_; rintro e wt ⟨at0, ct0, at1, ct1, ft, rfl, hbt, ovt, ivt⟩; obtain ⟨qUt, _, yUt⟩ := bcellAt hbt (b := w4.heap.size) (by show w4.heap.size < w6.heap.size; omega); obtain ⟨qAt, _, yAt⟩ := bcellAt hbt (b := w.heap.size) (by show w.heap.size < w6.heap.size; omega))
      | (go_at_call 10; refine (HEQ.out _ _ _ _ _ (hsame.trans hbt) (ovt.rd ivt) rfl rfl).mono ?_; rintro e w7 ⟨rfl, hbe⟩; obtain ⟨qUe, _, yUe⟩ := bcellAt hbe (b := w4.heap.size) yUt; obtain ⟨qAe, _, yAe⟩ := bcellAt hbe (b := w.heap.size) yAt))
  have hb7 : Below w6.heap.size w6 w7 := (hsame.trans hbt).trans (hbe.mono (hsame.trans hbt).size)
  clear HEQ HTO BBd hcf qUt qAt qUe qAe yUt yAt yUe yAe hbe hbt ovt ivt hsame
  have hbb7 : Below w6.heap.size w6 w7 := hb7
  have z7 := hbb7.size
  obtain ⟨qA7, _, yA7⟩ := bcellAt hb7 (b := w.heap.size) (by first | omega | (simp; done) | (simp; omega))
  obtain ⟨qS7, _, yS7⟩ := bcellAt hb7 (b := w3.heap.size) (by first | omega | (simp; done) | (simp; omega))
  obtain ⟨qU7, _, yU7⟩ := bcellAt hb7 (b := w4.heap.size) (by first | omega | (simp; done) | (simp; omega))
  obtain ⟨qG7, _, yG7⟩ := bcellAt hb7 (b := w5.heap.size) (by first | omega | (simp; done) | (simp; omega))
  have BB7 := Lib.hid (BB6.out.trans (hbb7.mono (by omega)))
  have os0_7 := Lib.hid (os0_6.out.below is0 (by omega) hbb7)
  have os1_7 := Lib.hid (os1_6.out.below is1 (by omega) hbb7)
  have ou0_7 := Lib.hid (ou0_6.out.below iu0 (by omega) hbb7)
  have ou1_7 := Lib.hid (ou1_6.out.below iu1 (by omega) hbb7)
  have og0_7 := Lib.hid (og0_6.out.below ig0 (by omega) hbb7)
  have og1_7 := Lib.hid (og1_6.out.below ig1 (by omega) hbb7)
  clear hbb7
  have e1 : (1 : Int) = ((1 : Nat) : Int) := rfl
  clear e1
  go_wp2_with fail
  refine (mark_Problem p _ _ g4_0 g4_1 1 _ _ _ _ _ ou0_7.out iu0 (by first | omega | (simp; done) | (simp; omega)) ou1_7.out iu1 (by first | omega | (simp; done) | (simp; omega)) dju0_1 (by omega) (by omega) (by omega)).mono ?_
  rintro e w8 ⟨rfl, mu0, mu1, hc8⟩
  have hcc8 : Chg (g4_0 ++ g4_1) w7 w8 := hc8
  have z8 := hcc8.size
  have hkA8 := hc8.block (w.heap.size) (by first | omega | (simp; done) | (simp; omega)) (fun e => by simp only [List.mem_append] at e; rcases e with e | e <;> first | (have h2 := iu0 _ e; omega) | (have h2 := iu1 _ e; omega))
  have qA8 : ∀ o, w8.cell? ⟨w.heap.size, o, none⟩ = _ := fun o => World.cell?_of_block (a := ⟨w.heap.size, o, none⟩) hkA8
  have yA8 : w.heap.size < w8.heap.size := by first | omega | (have := hc8.size; simp at this; omega)
  clear hkA8
  have hkS8 := hc8.block (w3.heap.size) (by first | omega | (simp; done) | (simp; omega)) (fun e => by simp only [List.mem_append] at e; rcases e with e | e <;> first | (have h2 := iu0 _ e; omega) | (have h2 := iu1 _ e; omega))
  have qS8 : ∀ o, w8.cell? ⟨w3.heap.size, o, none⟩ = _ := fun o => World.cell?_of_block (a := ⟨w3.heap.size, o, none⟩) hkS8
  have yS8 : w3.heap.size < w8.heap.size := by first | omega | (have := hc8.size; simp at this; omega)
  clear hkS8
  have hkU8 := hc8.block (w4.heap.size) (by first | omega | (simp; done) | (simp; omega)) (fun e => by simp only [List.mem_append] at e; rcases e with e | e <;> first | (have h2 := iu0 _ e; omega) | (have h2 := iu1 _ e; omega))
  have qU8 : ∀ o, w8.cell? ⟨w4.heap.size, o, none⟩ = _ := fun o => World.cell?_of_block (a := ⟨w4.heap.size, o, none⟩) hkU8
  have yU8 : w4.heap.size < w8.heap.size := by first | omega | (have := hc8.size; simp at this; omega)
  clear hkU8
  have hkG8 := hc8.block (w5.heap.size) (by first | omega | (simp; done) | (simp; omega)) (fun e => by simp only [List.mem_append] at e; rcases e with e | e <;> first | (have h2 := iu0 _ e; omega) | (have h2 := iu1 _ e; omega))
  have qG8 : ∀ o, w8.cell? ⟨w5.heap.size, o, none⟩ = _ := fun o => World.cell?_of_block (a := ⟨w5.heap.size, o, none⟩) hkG8
  have yG8 : w5.heap.size < w8.heap.size := by first | omega | (have := hc8.size; simp at this; omega)
  clear hkG8
  have BB8 := Lib.hid (BB7.out.trans (hcc8.below (by omega) (fun x hx => by simp only [List.mem_append] at hx; rcases hx with hx | hx <;> first | (have h2 := iu0 x hx; omega) | (have h2 := iu1 x hx; omega))))
  have os0_8 := Lib.hid (os0_7.out.chg is0 (by omega) hcc8 (fun x hx e => by have hx0 := is0 x hx; simp only [List.mem_append] at e; rcases e with e | e <;> first | (have h2 := iu0 x e; omega) | (have h2 := iu1 x e; omega)))
  have os1_8 := Lib.hid (os1_7.out.chg is1 (by omega) hcc8 (fun x hx e => by have hx0 := is1 x hx; simp only [List.mem_append] at e; rcases e with e | e <;> first | (have h2 := iu0 x e; omega) | (have h2 := iu1 x e; omega)))
  have og0_8 := Lib.hid (og0_7.out.chg ig0 (by omega) hcc8 (fun x hx e => by have hx0 := ig0 x hx; simp only [List.mem_append] at e; rcases e with e | e <;> first | (have h2 := iu0 x e; omega) | (have h2 := iu1 x e; omega)))
  have og1_8 := Lib.hid (og1_7.out.chg ig1 (by omega) hcc8 (fun x hx e => by have hx0 := ig1 x hx; simp only [List.mem_append] at e; rcases e with e | e <;> first | (have h2 := iu0 x e; omega) | (have h2 := iu1 x e; omega)))
  clear hcc8
  have kou0_8 := Lib.hid mu0
  clear mu0
  have kou1_8 := Lib.hid mu1
  clear mu1
  have kd8 : decide (((1 + cnt (intssT p.domains) + cnt (intssT p.apart) : Nat) : Int) < 0) = false := by simp; omega
  go_wp2_with fail
  refine ((eq_Problem R.1 _ _ _ _ w8.heap.size _ ((og0_8.out.rd ig0).mono (by omega)) ((os0_8.out.rd is0).mono (by omega)) ((og1_8.out.rd ig1).mono (by omega)) ((os1_8.out.rd is1).mono (by omega)) (Nat.le_refl _) (by omega))).mono ?_
  rintro e w9 ⟨rfl, hb9⟩
  have hbb9 : Below w8.heap.size w8 w9 := hb9
  have z9 := hbb9.size
  obtain ⟨qA9, _, yA9⟩ := bcellAt hb9 (b := w.heap.size) (by first | omega | (simp; done) | (simp; omega))
  obtain ⟨qS9, _, yS9⟩ := bcellAt hb9 (b := w3.heap.size) (by first | omega | (simp; done) | (simp; omega))
  obtain ⟨qU9, _, yU9⟩ := bcellAt hb9 (b := w4.heap.size) (by first | omega | (simp; done) | (simp; omega))
  obtain ⟨qG9, _, yG9⟩ := bcellAt hb9 (b := w5.heap.size) (by first | omega | (simp; done) | (simp; omega))
  have BB9 := Lib.hid (BB8.out.trans (hbb9.mono (by omega)))
  have os0_9 := Lib.hid (os0_8.out.below is0 (by omega) hbb9)
  have os1_9 := Lib.hid (os1_8.out.below is1 (by omega) hbb9)
  have og0_9 := Lib.hid (og0_8.out.below ig0 (by omega) hbb9)
  have og1_9 := Lib.hid (og1_8.out.below ig1 (by omega) hbb9)
  clear hbb9
  go_wp2_with fail
  refine (mark_Problem R.1 _ _ fg0 fg1 1 _ _ _ _ _ og0_9.out ig0 (by first | omega | (simp; done) | (simp; omega)) og1_9.out ig1 (by first | omega | (simp; done) | (simp; omega)) djg0_1 (by omega) (by omega) (by omega)).mono ?_
  rintro e w10 ⟨rfl, mg0, mg1, hc10⟩
  have hcc10 : Chg (fg0 ++ fg1) w9 w10 := hc10
  have z10 := hcc10.size
  have hkA10 := hc10.block (w.heap.size) (by first | omega | (simp; done) | (simp; omega)) (fun e => by simp only [List.mem_append] at e; rcases e with e | e <;> first | (have h2 := ig0 _ e; omega) | (have h2 := ig1 _ e; omega))
  have qA10 : ∀ o, w10.cell? ⟨w.heap.size, o, none⟩ = _ := fun o => World.cell?_of_block (a := ⟨w.heap.size, o, none⟩) hkA10
  have yA10 : w.heap.size < w10.heap.size := by first | omega | (have := hc10.size; simp at this; omega)
  clear hkA10
  have hkS10 := hc10.block (w3.heap.size) (by first | omega | (simp; done) | (simp; omega)) (fun e => by simp only [List.mem_append] at e; rcases e with e | e <;> first | (have h2 := ig0 _ e; omega) | (have h2 := ig1 _ e; omega))
  have qS10 : ∀ o, w10.cell? ⟨w3.heap.size, o, none⟩ = _ := fun o => World.cell?_of_block (a := ⟨w3.heap.size, o, none⟩) hkS10
  have yS10 : w3.heap.size < w10.heap.size := by first | omega | (have := hc10.size; simp at this; omega)
  clear hkS10
  have hkU10 := hc10.block (w4.heap.size) (by first | omega | (simp; done) | (simp; omega)) (fun e => by simp only [List.mem_append] at e; rcases e with e | e <;> first | (have h2 := ig0 _ e; omega) | (have h2 := ig1 _ e; omega))
  have qU10 : ∀ o, w10.cell? ⟨w4.heap.size, o, none⟩ = _ := fun o => World.cell?_of_block (a := ⟨w4.heap.size, o, none⟩) hkU10
  have yU10 : w4.heap.size < w10.heap.size := by first | omega | (have := hc10.size; simp at this; omega)
  clear hkU10
  have hkG10 := hc10.block (w5.heap.size) (by first | omega | (simp; done) | (simp; omega)) (fun e => by simp only [List.mem_append] at e; rcases e with e | e <;> first | (have h2 := ig0 _ e; omega) | (have h2 := ig1 _ e; omega))
  have qG10 : ∀ o, w10.cell? ⟨w5.heap.size, o, none⟩ = _ := fun o => World.cell?_of_block (a := ⟨w5.heap.size, o, none⟩) hkG10
  have yG10 : w5.heap.size < w10.heap.size := by first | omega | (have := hc10.size; simp at this; omega)
  clear hkG10
  have BB10 := Lib.hid (BB9.out.trans (hcc10.below (by omega) (fun x hx => by simp only [List.mem_append] at hx; rcases hx with hx | hx <;> first | (have h2 := ig0 x hx; omega) | (have h2 := ig1 x hx; omega))))
  have os0_10 := Lib.hid (os0_9.out.chg is0 (by omega) hcc10 (fun x hx e => by have hx0 := is0 x hx; simp only [List.mem_append] at e; rcases e with e | e <;> first | (have h2 := ig0 x e; omega) | (have h2 := ig1 x e; omega)))
  have os1_10 := Lib.hid (os1_9.out.chg is1 (by omega) hcc10 (fun x hx e => by have hx0 := is1 x hx; simp only [List.mem_append] at e; rcases e with e | e <;> first | (have h2 := ig0 x e; omega) | (have h2 := ig1 x e; omega)))
  clear hcc10
  have kog0_10 := Lib.hid mg0
  clear mg0
  have kog1_10 := Lib.hid mg1
  clear mg1
  go_wp2_with fail
  refine (held_Problem R.1 _ _ w10.heap.size 1 _ ((kog0_10.out.rd ig0).mono (by omega)) ((kog1_10.out.rd ig1).mono (by omega)) (Nat.le_refl _) (by omega) (by omega) (by omega)).mono ?_
  rintro e w11 ⟨rfl, hb11⟩
  have hbb11 : Below w10.heap.size w10 w11 := hb11
  have z11 := hbb11.size
  obtain ⟨qA11, _, yA11⟩ := bcellAt hb11 (b := w.heap.size) (by first | omega | (simp; done) | (simp; omega))
  obtain ⟨qS11, _, yS11⟩ := bcellAt hb11 (b := w3.heap.size) (by first | omega | (simp; done) | (simp; omega))
  obtain ⟨qU11, _, yU11⟩ := bcellAt hb11 (b := w4.heap.size) (by first | omega | (simp; done) | (simp; omega))
  obtain ⟨qG11, _, yG11⟩ := bcellAt hb11 (b := w5.heap.size) (by first | omega | (simp; done) | (simp; omega))
  have BB11 := Lib.hid (BB10.out.trans (hbb11.mono (by omega)))
  have os0_11 := Lib.hid (os0_10.out.below is0 (by omega) hbb11)
  have os1_11 := Lib.hid (os1_10.out.below is1 (by omega) hbb11)
  have kog0_11 := Lib.hid (kog0_10.out.below ig0 (by omega) hbb11)
  have kog1_11 := Lib.hid (kog1_10.out.below ig1 (by omega) hbb11)
  clear hbb11
  go_wp2_with fail
  have BX12 : Hid (Below w.heap.size w w11) := BB11.out
  have zx12 := BX12.out.size
  refine (to_Problem p vp0 vp1 _ ((Hp0.out.below BX12.out).mono zx12) ((Hp1.out.below BX12.out).mono zx12) (by omega)).mono ?_
  rintro e w12 ⟨at20, ct20, at21, ct21, ft2, rfl, hb12, ov12, iv12⟩
  have hbb12 : Below w11.heap.size w11 w12 := hb12
  have z12 := hbb12.size
  obtain ⟨qA12, _, yA12⟩ := bcellAt hb12 (b := w.heap.size) (by first | omega | (simp; done) | (simp; omega))
  obtain ⟨qS12, _, yS12⟩ := bcellAt hb12 (b := w3.heap.size) (by first | omega | (simp; done) | (simp; omega))
  obtain ⟨qU12, _, yU12⟩ := bcellAt hb12 (b := w4.heap.size) (by first | omega | (simp; done) | (simp; omega))
  obtain ⟨qG12, _, yG12⟩ := bcellAt hb12 (b := w5.heap.size) (by first | omega | (simp; done) | (simp; omega))
  have BB12 := Lib.hid (BB11.out.trans (hbb12.mono (by omega)))
  have os0_12 := Lib.hid (os0_11.out.below is0 (by omega) hbb12)
  have os1_12 := Lib.hid (os1_11.out.below is1 (by omega) hbb12)
  have kog0_12 := Lib.hid (kog0_11.out.below ig0 (by omega) hbb12)
  have kog1_12 := Lib.hid (kog1_11.out.below ig1 (by omega) hbb12)
  clear hbb12
  obtain ⟨g12_0, r12_0, e12_0, p12_0, ov12_0, d12_0⟩ := OwnV.uncons ov12
  obtain ⟨g12_1, r12_1, e12_1, p12_1, ov12_1, d12_1⟩ := OwnV.uncons ov12_0
  have iw12 := iv12.mono (lo' := w11.heap.size + 0) (by first | omega | (simp; done) | (simp; omega)) (Nat.le_refl _)
  have hnil12 := ov12_1.rep
  change r12_1 = [] at hnil12
  subst hnil12
  subst e12_1
  subst e12_0
  have it20 : In _ _ g12_0 := fun y hy => iw12 y (by simp [hy])
  have ot20_12 := Lib.hid p12_0
  have it21 : In _ _ g12_1 := fun y hy => iw12 y (by simp [hy])
  have ot21_12 := Lib.hid p12_1
  have djt20_1 : ∀ y ∈ g12_0, y ∉ g12_1 := fun y hy e => d12_0 y hy (by simp [e])
  clear p12_0 ov12_0 d12_0 p12_1 ov12_1 d12_1 ov12 iv12 iw12
  go_wp2_with fail
  refine (HIh.out _ _ _ ((ot20_12.out.rd it20).mono (by omega)) ((ot21_12.out.rd it21).mono (by omega)) (by omega) (by omega)).mono ?_
  rintro e w13 ⟨ah0, ch0, ah1, ch1, fh0, fh1, rfl, hb13, ou13, ov13, iqh0, iqh1, djh0_1⟩
  have ih0 := iqh0.mono (lo' := w12.heap.size + 0) (by first | omega | (simp; done) | (simp; omega)) (Nat.le_refl _)
  clear iqh0
  have ih1 := iqh1.mono (lo' := w12.heap.size + 0) (by first | omega | (simp; done) | (simp; omega)) (Nat.le_refl _)
  clear iqh1
  have hbb13 : Below w12.heap.size w12 w13 := hb13
  have z13 := hbb13.size
  obtain ⟨qA13, _, yA13⟩ := bcellAt hb13 (b := w.heap.size) (by first | omega | (simp; done) | (simp; omega))
  obtain ⟨qS13, _, yS13⟩ := bcellAt hb13 (b := w3.heap.size) (by first | omega | (simp; done) | (simp; omega))
  obtain ⟨qU13, _, yU13⟩ := bcellAt hb13 (b := w4.heap.size) (by first | omega | (simp; done) | (simp; omega))
  obtain ⟨qG13, _, yG13⟩ := bcellAt hb13 (b := w5.heap.size) (by first | omega | (simp; done) | (simp; omega))
  have BB13 := Lib.hid (BB12.out.trans (hbb13.mono (by omega)))
  have os0_13 := Lib.hid (os0_12.out.below is0 (by omega) hbb13)
  have os1_13 := Lib.hid (os1_12.out.below is1 (by omega) hbb13)
  have kog0_13 := Lib.hid (kog0_12.out.below ig0 (by omega) hbb13)
  have kog1_13 := Lib.hid (kog1_12.out.below ig1 (by omega) hbb13)
  have ot20_13 := Lib.hid (ot20_12.out.below it20 (by omega) hbb13)
  have ot21_13 := Lib.hid (ot21_12.out.below it21 (by omega) hbb13)
  clear hbb13
  have oh0_13 := Lib.hid ou13
  have oh1_13 := Lib.hid ov13
  clear ou13 ov13
  go_wp2_with fail
  refine ((eq_Problem R.1 _ _ _ _ (w13.alloc (.cells #[.slice ah0 R.1.domains.length ch0, .slice ah1 R.1.apart.length ch1] 26)).heap.size _ (((oh0_13.out.below ih0 (by omega) ((Below.refl _ _).alloc (Nat.le_refl _) _)).rd ih0).mono (by first | omega | (simp; done) | (simp; omega))) (((os0_13.out.below is0 (by omega) ((Below.refl _ _).alloc (Nat.le_refl _) _)).rd is0).mono (by first | omega | (simp; done) | (simp; omega))) (((oh1_13.out.below ih1 (by omega) ((Below.refl _ _).alloc (Nat.le_refl _) _)).rd ih1).mono (by first | omega | (simp; done) | (simp; omega))) (((os1_13.out.below is1 (by omega) ((Below.refl _ _).alloc (Nat.le_refl _) _)).rd is1).mono (by first | omega | (simp; done) | (simp; omega))) (Nat.le_refl _) (by omega))).mono ?_
  rintro e w14 ⟨rfl, hb14⟩
  have hx14 : Below w13.heap.size w13 (w13.alloc (.cells #[.slice ah0 R.1.domains.length ch0, .slice ah1 R.1.apart.length ch1] 26)) := ((Below.refl _ _).alloc (Nat.le_refl _) _)
  have hbb14 : Below w13.heap.size w13 w14 := hx14.trans (hb14.mono (by first | (simp; done) | (simp; omega)))
  have z14 := hbb14.size
  obtain ⟨qA14, _, yA14⟩ := bcellAt hb14 (b := w.heap.size) (by first | omega | (simp; done) | (simp; omega))
  obtain ⟨qS14, _, yS14⟩ := bcellAt hb14 (b := w3.heap.size) (by first | omega | (simp; done) | (simp; omega))
  obtain ⟨qU14, _, yU14⟩ := bcellAt hb14 (b := w4.heap.size) (by first | omega | (simp; done) | (simp; omega))
  obtain ⟨qG14, _, yG14⟩ := bcellAt hb14 (b := w5.heap.size) (by first | omega | (simp; done) | (simp; omega))
  obtain ⟨qH14, _, yH14⟩ := bcellAt hb14 (b := w13.heap.size) (by first | omega | (simp; done) | (simp; omega))
  have BB14 := Lib.hid (BB13.out.trans (hbb14.mono (by omega)))
  have os0_14 := Lib.hid (os0_13.out.below is0 (by omega) hbb14)
  have os1_14 := Lib.hid (os1_13.out.below is1 (by omega) hbb14)
  have kog0_14 := Lib.hid (kog0_13.out.below ig0 (by omega) hbb14)
  have kog1_14 := Lib.hid (kog1_13.out.below ig1 (by omega) hbb14)
  have oh0_14 := Lib.hid (oh0_13.out.below ih0 (by omega) hbb14)
  have oh1_14 := Lib.hid (oh1_13.out.below ih1 (by omega) hbb14)
  clear hx14
  clear hb14 hbb14
  go_wp2_with fail
  refine (held_Problem R.1 _ _ w14.heap.size 1 _ ((kog0_14.out.rd ig0).mono (by omega)) ((kog1_14.out.rd ig1).mono (by omega)) (Nat.le_refl _) (by omega) (by omega) (by omega)).mono ?_
  rintro e w15 ⟨rfl, hb15⟩
  have hbb15 : Below w14.heap.size w14 w15 := hb15
  have z15 := hbb15.size
  obtain ⟨qA15, _, yA15⟩ := bcellAt hb15 (b := w.heap.size) (by first | omega | (simp; done) | (simp; omega))
  obtain ⟨qS15, _, yS15⟩ := bcellAt hb15 (b := w3.heap.size) (by first | omega | (simp; done) | (simp; omega))
  obtain ⟨qU15, _, yU15⟩ := bcellAt hb15 (b := w4.heap.size) (by first | omega | (simp; done) | (simp; omega))
  obtain ⟨qG15, _, yG15⟩ := bcellAt hb15 (b := w5.heap.size) (by first | omega | (simp; done) | (simp; omega))
  obtain ⟨qH15, _, yH15⟩ := bcellAt hb15 (b := w13.heap.size) (by first | omega | (simp; done) | (simp; omega))
  have BB15 := Lib.hid (BB14.out.trans (hbb15.mono (by omega)))
  have kog0_15 := Lib.hid (kog0_14.out.below ig0 (by omega) hbb15)
  have kog1_15 := Lib.hid (kog1_14.out.below ig1 (by omega) hbb15)
  clear hbb15
  go_wp2
  go_ret
  exact ⟨rfl, BB15.out⟩
end Go.Proofs.Ytknjgppdmdfmoaa.fnExactTighten
