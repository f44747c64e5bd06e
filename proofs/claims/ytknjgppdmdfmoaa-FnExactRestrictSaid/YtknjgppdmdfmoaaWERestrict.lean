/- The walk of the law FnExactRestrict: it returns true. -/
import Derived.Test.YtknjgppdmdfmoaaRestr2
import Derived.Test.YtknjgppdmdfmoaaHProblem
import Derived.Deep.RegionHeld3
namespace Go.Proofs.Ytknjgppdmdfmoaa.fnExactRestrict
open Go.RowKit
set_option linter.unusedVariables false
theorem NewP.std {r : DProblem × Int} {w : World} {e : Ending} {w' : World} (h : NewP r w e w') : ∃ a0_0 c0_0 a0_1 c0_1 fp0, e = .returned (.tuple #[.agg #[.slice a0_0 r.1.domains.length c0_0, .slice a0_1 r.1.apart.length c0_1], .int .i64 r.2]) ∧ Below w.heap.size w w' ∧ OwnV w' r.1.tr [.slice a0_0 r.1.domains.length c0_0, .slice a0_1 r.1.apart.length c0_1] fp0 ∧ In w.heap.size w'.heap.size fp0 := by
  obtain ⟨a1, c1, a2, c2, f1, f2, he, hb, o1, o2, i1, i2, dj⟩ := h
  exact ⟨a1, c1, a2, c2, f1 ++ (f2 ++ []), he, hb, OwnV.cons o1 (OwnV.cons o2 OwnV.nil (by simp)) (by simpa using dj), i1.append (by simpa using i2)⟩
theorem sRestrict_std (p : DProblem) (x : Int) (cs : List Int) (vp0 vp1 vcs0 : Value) (w : World) (rp0 : Rd w.heap.size w (intssT p.domains) vp0) (rp1 : Rd w.heap.size w (intssT p.apart) vp1) (rcs0 : Rd w.heap.size w (intsT cs) vcs0) (hs_p : sizL p.tr ≤ 1048576) (hk_p : p.ok) (hk_x : I64 x) (hs_cs : siz (intsT cs) ≤ 1048576) (hk_cs : ∀ n ∈ cs, I64 n) :
    Calls Try.prog 22 #[.agg #[vp0, vp1], .int .i64 x, vcs0] w (fun e w' => ∃ a0_0 c0_0 a0_1 c0_1 fp0, e = .returned (.tuple #[.agg #[.slice a0_0 (restR p x cs).1.domains.length c0_0, .slice a0_1 (restR p x cs).1.apart.length c0_1], .int .i64 (restR p x cs).2]) ∧ Below w.heap.size w w' ∧ OwnV w' (restR p x cs).1.tr [.slice a0_0 (restR p x cs).1.domains.length c0_0, .slice a0_1 (restR p x cs).1.apart.length c0_1] fp0 ∧ In w.heap.size w'.heap.size fp0) := by
  have hq := DProblem.siz_tr p
  rw [siz_ints] at hs_cs
  exact (sRestrict_any p cs _ _ _ x w rp0 rp1 rcs0 (by omega) (by omega) hs_cs).mono (fun e w' h => NewP.std h)
theorem iRestrict_std (p : DProblem) (x : Int) (cs : List Int) (vp0 vp1 vcs0 : Value) (w : World) (rp0 : Rd w.heap.size w (intssT p.domains) vp0) (rp1 : Rd w.heap.size w (intssT p.apart) vp1) (rcs0 : Rd w.heap.size w (intsT cs) vcs0) (hs_p : sizL p.tr ≤ 1048576) (hk_p : p.ok) (hk_x : I64 x) (hs_cs : siz (intsT cs) ≤ 1048576) (hk_cs : ∀ n ∈ cs, I64 n) :
    Calls Try.prog 20 #[.agg #[vp0, vp1], .int .i64 x, vcs0] w (fun e w' => ∃ a0_0 c0_0 a0_1 c0_1 fp0, e = .returned (.tuple #[.agg #[.slice a0_0 (restR p x cs).1.domains.length c0_0, .slice a0_1 (restR p x cs).1.apart.length c0_1], .int .i64 (restR p x cs).2]) ∧ Below w.heap.size w w' ∧ OwnV w' (restR p x cs).1.tr [.slice a0_0 (restR p x cs).1.domains.length c0_0, .slice a0_1 (restR p x cs).1.apart.length c0_1] fp0 ∧ In w.heap.size w'.heap.size fp0) := by
  have hq := DProblem.siz_tr p
  rw [siz_ints] at hs_cs
  exact (iRestrict_any p cs _ _ _ x w rp0 rp1 rcs0 (by omega) (by omega) hs_cs).mono (fun e w' h => NewP.std h)
theorem restR_siz (p : DProblem) (x : Int) (cs : List Int) : sizL (restR p x cs).1.tr ≤ sizL p.tr := by
  have h0 : sizL (DProblem.tr ⟨[], []⟩) = 0 := by rw [DProblem.siz_tr, siz_intss]; rfl
  unfold restR
  split
  · split
    · split
      · rw [h0]; omega
      · rw [DProblem.siz_tr, DProblem.siz_tr]
        simp only [siz_intss, List.length_set]
        have : sumLen (p.domains.set x.toNat (kept (outB cs) (row p.domains x.toNat))) ≤ sumLen p.domains := by
          generalize x.toNat = i
          by_cases hi : i < p.domains.length
          · have e1 : p.domains = p.domains.take i ++ (p.domains[i] :: p.domains.drop (i + 1)) := by rw [List.getElem_cons_drop, List.take_append_drop]
            have e2 : p.domains.set i (kept (outB cs) (row p.domains i)) = p.domains.take i ++ (kept (outB cs) (row p.domains i) :: p.domains.drop (i + 1)) := by rw [List.set_eq_take_append_cons_drop, if_pos hi]
            rw [e2]
            conv => rhs; rw [e1]
            rw [sumLen_append, sumLen_append]
            have := kept_len (outB cs) (row p.domains i)
            rw [← row_eq hi] at this ⊢
            simp only [sumLen, List.map_cons, List.sum_cons]
            omega
          · rw [List.set_eq_of_length_le (by omega)]; exact Nat.le_refl _
        omega
    · rw [h0]; omega
  · rw [h0]; omega
theorem cnt_le_siz (m : List (List Int)) : cnt (intssT m) ≤ siz (intssT m) := by rw [cnt_intss, siz_intss]; omega
set_option maxHeartbeats 4000000 in
set_option maxRecDepth 100000 in
theorem walk (p : DProblem) (x : Int) (cs : List Int) (vp0 vp1 vcs0 : Value) (w : World) (rp0 : Rd w.heap.size w (intssT p.domains) vp0) (rp1 : Rd w.heap.size w (intssT p.apart) vp1) (rcs0 : Rd w.heap.size w (intsT cs) vcs0) (hk_p : p.ok) (hk_x : I64 x) (hk_cs : ∀ n ∈ cs, I64 n) :
    Calls Try.prog 5 #[.agg #[vp0, vp1], .int .i64 x, vcs0] w fun e w' => e = .returned (.bool true) ∧ Below w.heap.size w w' := by
  have Hp0 := Lib.hid rp0
  have Hp1 := Lib.hid rp1
  have Hcs0 := Lib.hid rcs0
  clear rp0 rp1 rcs0
  obtain ⟨avcs, cvcs, evcs, _, _, _⟩ := Rd.ints Hcs0.out
  subst evcs
  have hq_p := DProblem.siz_tr p
  have hRs := restR_siz p x cs
  have hR0 := DProblem.siz_tr (restR p x cs).1
  have hc0 := cnt_le_siz (restR p x cs).1.domains
  have hc1 := cnt_le_siz (restR p x cs).1.apart
  have hc2 := cnt_le_siz p.domains
  have hc3 := cnt_le_siz p.apart
  have hc4 := cnt_ints cs
  have BB0 : Hid (Below w.heap.size w w) := Below.refl _ _
  generalize hR : restR p x cs = R at *
  have HR := Lib.hid hR
  clear hR
  have HS : Hid (∀ (W : World) (xp0 xp1 xcs0 : Value), Rd W.heap.size W (intssT p.domains) xp0 → Rd W.heap.size W (intssT p.apart) xp1 → Rd W.heap.size W (intsT cs) xcs0 → sizL p.tr ≤ 1048576 → siz (intsT cs) ≤ 1048576 → Calls Try.prog 22 #[.agg #[xp0, xp1], .int .i64 x, xcs0] W (fun e w' => ∃ a0_0 c0_0 a0_1 c0_1 fp0, e = .returned (.tuple #[.agg #[.slice a0_0 R.1.domains.length c0_0, .slice a0_1 R.1.apart.length c0_1], .int .i64 R.2]) ∧ Below W.heap.size W w' ∧ OwnV w' R.1.tr [.slice a0_0 R.1.domains.length c0_0, .slice a0_1 R.1.apart.length c0_1] fp0 ∧ In W.heap.size w'.heap.size fp0)) := fun W xp0 xp1 xcs0 yp0 yp1 ycs0 z0 z1 => by rw [← HR.out]; exact sRestrict_std p x cs xp0 xp1 xcs0 W yp0 yp1 ycs0 z0 hk_p hk_x z1 hk_cs
  have HI : Hid (∀ (W : World) (xp0 xp1 xcs0 : Value), Rd W.heap.size W (intssT p.domains) xp0 → Rd W.heap.size W (intssT p.apart) xp1 → Rd W.heap.size W (intsT cs) xcs0 → sizL p.tr ≤ 1048576 → siz (intsT cs) ≤ 1048576 → Calls Try.prog 20 #[.agg #[xp0, xp1], .int .i64 x, xcs0] W (fun e w' => ∃ a0_0 c0_0 a0_1 c0_1 fp0, e = .returned (.tuple #[.agg #[.slice a0_0 R.1.domains.length c0_0, .slice a0_1 R.1.apart.length c0_1], .int .i64 R.2]) ∧ Below W.heap.size W w' ∧ OwnV w' R.1.tr [.slice a0_0 R.1.domains.length c0_0, .slice a0_1 R.1.apart.length c0_1] fp0 ∧ In W.heap.size w'.heap.size fp0)) := fun W xp0 xp1 xcs0 yp0 yp1 ycs0 z0 z1 => by rw [← HR.out]; exact iRestrict_std p x cs xp0 xp1 xcs0 W yp0 yp1 ycs0 z0 hk_p hk_x z1 hk_cs
  by_cases hl_cs : cs.length ≤ 1048576
  case neg =>
    have hl1_cs : (1048576 : Int) < ((cs.length : Nat) : Int) := by omega
    have hl2_cs : 1048576 < cs.length := by omega
    go_enter Try.func5, Try.ntmps5
    go_wp2
    go_ret
    exact ⟨rfl, Below.alloc (Below.refl _ _) (by first | exact Nat.le_refl _ | (simp; done) | (simp; omega)) _⟩
  have hl1_cs : ((cs.length : Nat) : Int) ≤ 1048576 := by omega
  have hs_cs : siz (intsT cs) ≤ 1048576 := by rw [siz_ints]; exact hl_cs
  go_enter Try.func5, Try.ntmps5
  go_wp2_with fail
  have BX1 : Hid (Below w.heap.size w (w.alloc (.cells #[vp0, vp1] 24))) := (BB0.out.alloc (by first | omega | (simp; done) | (simp; omega)) _)
  have zx1 := BX1.out.size
  refine (sz_Problem p vp0 vp1 w.heap.size _ _ (Hp0.out.below BX1.out) (Hp1.out.below BX1.out) (by omega) (by omega) (by omega) hk_p).mono ?_
  rintro e w1 ⟨⟨cz1, rfl⟩ | ⟨cz1, rfl⟩, hb1⟩
  case inr =>
    go_wp2
    go_ret
    exact ⟨rfl, BX1.out.trans (hb1.mono (by omega))⟩
  have cy1 : decide ((1048576 : Int) - sizL p.tr < 0) = false := by simp; omega
  have hx1 : Below w.heap.size w (w.alloc (.cells #[vp0, vp1] 24)) := ((Below.refl _ _).alloc (Nat.le_refl _) _)
  have hbb1 : Below w.heap.size w w1 := hx1.trans (hb1.mono (by first | (simp; done) | (simp; omega)))
  have z1 := hbb1.size
  obtain ⟨qAp1, _, yAp1⟩ := bcellAt hb1 (b := w.heap.size) (by first | omega | (simp; done) | (simp; omega))
  have BB1 := Lib.hid (BB0.out.trans (hbb1.mono (by omega)))
  clear hx1
  clear hb1 hbb1
  have CZ1 := Lib.hid cy1
  go_wp2_with fail
  have BX2 : Hid (Below w.heap.size w w1) := BB1.out
  have zx2 := BX2.out.size
  refine (to_Problem p _ _ _ ((Hp0.out.below BX2.out).mono zx2) ((Hp1.out.below BX2.out).mono zx2) (by omega)).mono ?_
  rintro e w2 ⟨atp0, ctp0, atp1, ctp1, ftp, rfl, hb2, ov2, iv2⟩
  have hbb2 : Below w1.heap.size w1 w2 := hb2
  have z2 := hbb2.size
  obtain ⟨qAp2, _, yAp2⟩ := bcellAt hb2 (b := w.heap.size) (by first | omega | (simp; done) | (simp; omega))
  have BB2 := Lib.hid (BB1.out.trans (hbb2.mono (by omega)))
  clear hbb2
  obtain ⟨g2_0, r2_0, e2_0, p2_0, ov2_0, d2_0⟩ := OwnV.uncons ov2
  obtain ⟨g2_1, r2_1, e2_1, p2_1, ov2_1, d2_1⟩ := OwnV.uncons ov2_0
  have iw2 := iv2.mono (lo' := w1.heap.size + 0) (by first | omega | (simp; done) | (simp; omega)) (Nat.le_refl _)
  have hnil2 := ov2_1.rep
  change r2_1 = [] at hnil2
  subst hnil2
  subst e2_1
  subst e2_0
  have itp0 : In _ _ g2_0 := fun y hy => iw2 y (by simp [hy])
  have otp0_2 := Lib.hid p2_0
  have itp1 : In _ _ g2_1 := fun y hy => iw2 y (by simp [hy])
  have otp1_2 := Lib.hid p2_1
  have djtp0_1 : ∀ y ∈ g2_0, y ∉ g2_1 := fun y hy e => d2_0 y hy (by simp [e])
  clear p2_0 ov2_0 d2_0 p2_1 ov2_1 d2_1 ov2 iv2 iw2
  go_wp2_with fail
  have BX3 : Hid (Below w.heap.size w w2) := BB2.out
  have zx3 := BX3.out.size
  refine (to_Int64S cs _ _ ((Hcs0.out.below BX3.out).mono zx3) (by omega)).mono ?_
  rintro e w3 ⟨atcs0, ctcs0, ftcs0, rfl, hb3, ov3, iqtcs0⟩
  have itcs0 := iqtcs0.mono (lo' := w2.heap.size + 0) (by first | omega | (simp; done) | (simp; omega)) (Nat.le_refl _)
  clear iqtcs0
  have hbb3 : Below w2.heap.size w2 w3 := hb3
  have z3 := hbb3.size
  obtain ⟨qAp3, _, yAp3⟩ := bcellAt hb3 (b := w.heap.size) (by first | omega | (simp; done) | (simp; omega))
  have BB3 := Lib.hid (BB2.out.trans (hbb3.mono (by omega)))
  have otp0_3 := Lib.hid (otp0_2.out.below itp0 (by omega) hbb3)
  have otp1_3 := Lib.hid (otp1_2.out.below itp1 (by omega) hbb3)
  clear hbb3
  have otcs0_3 := Lib.hid ov3
  clear ov3
  go_wp2_with fail
  refine (HS.out _ _ _ _ ((otp0_3.out.rd itp0).mono (by omega)) ((otp1_3.out.rd itp1).mono (by omega)) ((otcs0_3.out.rd itcs0).mono (by omega)) (by omega) (by omega)).mono ?_
  rintro e w4 ⟨as00, cs00, as01, cs01, fs0, rfl, hb4, ov4, iv4⟩
  have hbb4 : Below w3.heap.size w3 w4 := hb4
  have z4 := hbb4.size
  obtain ⟨qAp4, _, yAp4⟩ := bcellAt hb4 (b := w.heap.size) (by first | omega | (simp; done) | (simp; omega))
  have BB4 := Lib.hid (BB3.out.trans (hbb4.mono (by omega)))
  have otp0_4 := Lib.hid (otp0_3.out.below itp0 (by omega) hbb4)
  have otp1_4 := Lib.hid (otp1_3.out.below itp1 (by omega) hbb4)
  have otcs0_4 := Lib.hid (otcs0_3.out.below itcs0 (by omega) hbb4)
  clear hbb4
  obtain ⟨g4_0, r4_0, e4_0, p4_0, ov4_0, d4_0⟩ := OwnV.uncons ov4
  obtain ⟨g4_1, r4_1, e4_1, p4_1, ov4_1, d4_1⟩ := OwnV.uncons ov4_0
  have iw4 := iv4.mono (lo' := w3.heap.size + 0) (by first | omega | (simp; done) | (simp; omega)) (Nat.le_refl _)
  have hnil4 := ov4_1.rep
  change r4_1 = [] at hnil4
  subst hnil4
  subst e4_1
  subst e4_0
  have is00 : In _ _ g4_0 := fun y hy => iw4 y (by simp [hy])
  have os00_4 := Lib.hid p4_0
  have is01 : In _ _ g4_1 := fun y hy => iw4 y (by simp [hy])
  have os01_4 := Lib.hid p4_1
  have djs00_1 : ∀ y ∈ g4_0, y ∉ g4_1 := fun y hy e => d4_0 y hy (by simp [e])
  clear p4_0 ov4_0 d4_0 p4_1 ov4_1 d4_1 ov4 iv4 iw4
  go_wp2_with fail
  have BX5 : Hid (Below w.heap.size w (w4.alloc (.cells #[.slice as00 R.1.domains.length cs00, .slice as01 R.1.apart.length cs01] 26))) := (BB4.out.alloc (by first | omega | (simp; done) | (simp; omega)) _)
  have zx5 := BX5.out.size
  refine (to_Problem p _ _ _ ((Hp0.out.below BX5.out).mono zx5) ((Hp1.out.below BX5.out).mono zx5) (by omega)).mono ?_
  rintro e w5 ⟨aup0, cup0, aup1, cup1, fup, rfl, hb5, ov5, iv5⟩
  have hx5 : Below w4.heap.size w4 (w4.alloc (.cells #[.slice as00 R.1.domains.length cs00, .slice as01 R.1.apart.length cs01] 26)) := ((Below.refl _ _).alloc (Nat.le_refl _) _)
  have hbb5 : Below w4.heap.size w4 w5 := hx5.trans (hb5.mono (by first | (simp; done) | (simp; omega)))
  have z5 := hbb5.size
  obtain ⟨qAp5, _, yAp5⟩ := bcellAt hb5 (b := w.heap.size) (by first | omega | (simp; done) | (simp; omega))
  obtain ⟨qS05, _, yS05⟩ := bcellAt hb5 (b := w4.heap.size) (by first | omega | (simp; done) | (simp; omega))
  have BB5 := Lib.hid (BB4.out.trans (hbb5.mono (by omega)))
  have os00_5 := Lib.hid (os00_4.out.below is00 (by omega) hbb5)
  have os01_5 := Lib.hid (os01_4.out.below is01 (by omega) hbb5)
  clear hx5
  clear hb5 hbb5
  obtain ⟨g5_0, r5_0, e5_0, p5_0, ov5_0, d5_0⟩ := OwnV.uncons ov5
  obtain ⟨g5_1, r5_1, e5_1, p5_1, ov5_1, d5_1⟩ := OwnV.uncons ov5_0
  have iw5 := iv5.mono (lo' := w4.heap.size + 1) (by first | omega | (simp; done) | (simp; omega)) (Nat.le_refl _)
  have hnil5 := ov5_1.rep
  change r5_1 = [] at hnil5
  subst hnil5
  subst e5_1
  subst e5_0
  have iup0 : In _ _ g5_0 := fun y hy => iw5 y (by simp [hy])
  have oup0_5 := Lib.hid p5_0
  have iup1 : In _ _ g5_1 := fun y hy => iw5 y (by simp [hy])
  have oup1_5 := Lib.hid p5_1
  have djup0_1 : ∀ y ∈ g5_0, y ∉ g5_1 := fun y hy e => d5_0 y hy (by simp [e])
  clear p5_0 ov5_0 d5_0 p5_1 ov5_1 d5_1 ov5 iv5 iw5
  go_wp2_with fail
  have BX6 : Hid (Below w.heap.size w (w5.alloc (.cells #[.slice aup0 p.domains.length cup0, .slice aup1 p.apart.length cup1] 26))) := (BB5.out.alloc (by first | omega | (simp; done) | (simp; omega)) _)
  have zx6 := BX6.out.size
  refine (to_Int64S cs _ _ ((Hcs0.out.below BX6.out).mono zx6) (by omega)).mono ?_
  rintro e w6 ⟨aucs0, cucs0, fucs0, rfl, hb6, ov6, iqucs0⟩
  have iucs0 := iqucs0.mono (lo' := w5.heap.size + 1) (by first | omega | (simp; done) | (simp; omega)) (Nat.le_refl _)
  clear iqucs0
  have hx6 : Below w5.heap.size w5 (w5.alloc (.cells #[.slice aup0 p.domains.length cup0, .slice aup1 p.apart.length cup1] 26)) := ((Below.refl _ _).alloc (Nat.le_refl _) _)
  have hbb6 : Below w5.heap.size w5 w6 := hx6.trans (hb6.mono (by first | (simp; done) | (simp; omega)))
  have z6 := hbb6.size
  obtain ⟨qAp6, _, yAp6⟩ := bcellAt hb6 (b := w.heap.size) (by first | omega | (simp; done) | (simp; omega))
  obtain ⟨qS06, _, yS06⟩ := bcellAt hb6 (b := w4.heap.size) (by first | omega | (simp; done) | (simp; omega))
  obtain ⟨qUp6, _, yUp6⟩ := bcellAt hb6 (b := w5.heap.size) (by first | omega | (simp; done) | (simp; omega))
  have BB6 := Lib.hid (BB5.out.trans (hbb6.mono (by omega)))
  have os00_6 := Lib.hid (os00_5.out.below is00 (by omega) hbb6)
  have os01_6 := Lib.hid (os01_5.out.below is01 (by omega) hbb6)
  have oup0_6 := Lib.hid (oup0_5.out.below iup0 (by omega) hbb6)
  have oup1_6 := Lib.hid (oup1_5.out.below iup1 (by omega) hbb6)
  clear hx6
  clear hb6 hbb6
  have oucs0_6 := Lib.hid ov6
  clear ov6
  go_wp2_with fail
  refine (HI.out _ _ _ _ ((oup0_6.out.rd iup0).mono (by omega)) ((oup1_6.out.rd iup1).mono (by omega)) ((oucs0_6.out.rd iucs0).mono (by omega)) (by omega) (by omega)).mono ?_
  rintro e w7 ⟨ag00, cg00, ag01, cg01, fg0, rfl, hb7, ov7, iv7⟩
  have hbb7 : Below w6.heap.size w6 w7 := hb7
  have z7 := hbb7.size
  obtain ⟨qAp7, _, yAp7⟩ := bcellAt hb7 (b := w.heap.size) (by first | omega | (simp; done) | (simp; omega))
  obtain ⟨qS07, _, yS07⟩ := bcellAt hb7 (b := w4.heap.size) (by first | omega | (simp; done) | (simp; omega))
  obtain ⟨qUp7, _, yUp7⟩ := bcellAt hb7 (b := w5.heap.size) (by first | omega | (simp; done) | (simp; omega))
  have BB7 := Lib.hid (BB6.out.trans (hbb7.mono (by omega)))
  have os00_7 := Lib.hid (os00_6.out.below is00 (by omega) hbb7)
  have os01_7 := Lib.hid (os01_6.out.below is01 (by omega) hbb7)
  have oup0_7 := Lib.hid (oup0_6.out.below iup0 (by omega) hbb7)
  have oup1_7 := Lib.hid (oup1_6.out.below iup1 (by omega) hbb7)
  have oucs0_7 := Lib.hid (oucs0_6.out.below iucs0 (by omega) hbb7)
  clear hbb7
  obtain ⟨g7_0, r7_0, e7_0, p7_0, ov7_0, d7_0⟩ := OwnV.uncons ov7
  obtain ⟨g7_1, r7_1, e7_1, p7_1, ov7_1, d7_1⟩ := OwnV.uncons ov7_0
  have iw7 := iv7.mono (lo' := w6.heap.size + 0) (by first | omega | (simp; done) | (simp; omega)) (Nat.le_refl _)
  have hnil7 := ov7_1.rep
  change r7_1 = [] at hnil7
  subst hnil7
  subst e7_1
  subst e7_0
  have ig00 : In _ _ g7_0 := fun y hy => iw7 y (by simp [hy])
  have og00_7 := Lib.hid p7_0
  have ig01 : In _ _ g7_1 := fun y hy => iw7 y (by simp [hy])
  have og01_7 := Lib.hid p7_1
  have djg00_1 : ∀ y ∈ g7_0, y ∉ g7_1 := fun y hy e => d7_0 y hy (by simp [e])
  clear p7_0 ov7_0 d7_0 p7_1 ov7_1 d7_1 ov7 iv7 iw7
  go_wp2_with fail
  refine ((eq_Problem R.1 _ _ _ _ (w7.alloc (.cells #[.slice ag00 R.1.domains.length cg00, .slice ag01 R.1.apart.length cg01] 26)).heap.size _ (((og00_7.out.below ig00 (by omega) ((Below.refl _ _).alloc (Nat.le_refl _) _)).rd ig00).mono (by first | omega | (simp; done) | (simp; omega))) (((os00_7.out.below is00 (by omega) ((Below.refl _ _).alloc (Nat.le_refl _) _)).rd is00).mono (by first | omega | (simp; done) | (simp; omega))) (((og01_7.out.below ig01 (by omega) ((Below.refl _ _).alloc (Nat.le_refl _) _)).rd ig01).mono (by first | omega | (simp; done) | (simp; omega))) (((os01_7.out.below is01 (by omega) ((Below.refl _ _).alloc (Nat.le_refl _) _)).rd is01).mono (by first | omega | (simp; done) | (simp; omega))) (Nat.le_refl _) (by omega))).mono ?_
  rintro e w8 ⟨rfl, hb8⟩
  have hx8 : Below w7.heap.size w7 (w7.alloc (.cells #[.slice ag00 R.1.domains.length cg00, .slice ag01 R.1.apart.length cg01] 26)) := ((Below.refl _ _).alloc (Nat.le_refl _) _)
  have hbb8 : Below w7.heap.size w7 w8 := hx8.trans (hb8.mono (by first | (simp; done) | (simp; omega)))
  have z8 := hbb8.size
  obtain ⟨qAp8, _, yAp8⟩ := bcellAt hb8 (b := w.heap.size) (by first | omega | (simp; done) | (simp; omega))
  obtain ⟨qS08, _, yS08⟩ := bcellAt hb8 (b := w4.heap.size) (by first | omega | (simp; done) | (simp; omega))
  obtain ⟨qUp8, _, yUp8⟩ := bcellAt hb8 (b := w5.heap.size) (by first | omega | (simp; done) | (simp; omega))
  obtain ⟨qG08, _, yG08⟩ := bcellAt hb8 (b := w7.heap.size) (by first | omega | (simp; done) | (simp; omega))
  have BB8 := Lib.hid (BB7.out.trans (hbb8.mono (by omega)))
  have os00_8 := Lib.hid (os00_7.out.below is00 (by omega) hbb8)
  have os01_8 := Lib.hid (os01_7.out.below is01 (by omega) hbb8)
  have oup0_8 := Lib.hid (oup0_7.out.below iup0 (by omega) hbb8)
  have oup1_8 := Lib.hid (oup1_7.out.below iup1 (by omega) hbb8)
  have oucs0_8 := Lib.hid (oucs0_7.out.below iucs0 (by omega) hbb8)
  have og00_8 := Lib.hid (og00_7.out.below ig00 (by omega) hbb8)
  have og01_8 := Lib.hid (og01_7.out.below ig01 (by omega) hbb8)
  clear hx8
  clear hb8 hbb8
  clear cy1
  have hcf : w8.cell? ⟨w5.heap.size, 0, none⟩ = some (.slice aup0 p.domains.length cup0) ∧ w8.cell? ⟨w5.heap.size, 1, none⟩ = some (.slice aup1 p.apart.length cup1) ∧ w8.cell? ⟨w.heap.size, 0, none⟩ = some (vp0) ∧ w8.cell? ⟨w.heap.size, 1, none⟩ = some (vp1) := by refine ⟨?_, ?_, ?_, ?_⟩ <;> simp [go_sem, *]
  go_wp2
  have hsame : Below w8.heap.size w8 w8.drew := ⟨rfl, rfl, rfl, Nat.le_refl _, fun _ _ => rfl⟩
  have BBd := Lib.hid BB8.out.drew
  have HTO := Lib.hid (to_Problem p vp0 vp1 w8.drew ((Hp0.out.below BBd.out).mono (by show w.heap.size ≤ w8.heap.size; omega)) ((Hp1.out.below BBd.out).mono (by show w.heap.size ≤ w8.heap.size; omega)) (by omega))
  have HEQ : Hid (∀ (W : World) (p0 p1 q0 q1 : Value), Below w8.heap.size w8 W → RdV W.heap.size W p.tr [q0, q1] → p0 = .slice aup0 p.domains.length cup0 → p1 = .slice aup1 p.apart.length cup1 → Calls Try.prog 10 #[.agg #[p0, p1], .agg #[q0, q1]] W fun e w' => e = .returned (.bool true) ∧ Below W.heap.size W w') := fun W p0 p1 q0 q1 hW hr e0 e1 => by
    subst e0 e1
    have hzW := hW.size
    exact eq_Problem p _ _ _ _ W.heap.size W (((oup0_8.out.below iup0 (by omega) hW).rd iup0).mono (by omega)) hr.1 (((oup1_8.out.below iup1 (by omega) hW).rd iup1).mono (by omega)) hr.2.1 (Nat.le_refl _) (by omega)
  go_region_held3 (fun W => W.cell? ⟨w5.heap.size, 0, none⟩ = some (.slice aup0 p.domains.length cup0) ∧ W.cell? ⟨w5.heap.size, 1, none⟩ = some (.slice aup1 p.apart.length cup1) ∧ W.cell? ⟨w.heap.size, 0, none⟩ = some (vp0) ∧ W.cell? ⟨w.heap.size, 1, none⟩ = some (vp1)) (first | exact hcf | (refine ⟨?_, ?_, ?_, ?_⟩ <;> simp [go_sem, *]))
    (first
      | (go_at_call 8; refine (HTO.out).mono ?_; rintro e wt ⟨at0, ct0, at1, ct1, ft, rfl, hbt, ovt, ivt⟩; obtain ⟨qUt, _, yUt⟩ := bcellAt hbt (b := w5.heap.size) (by show w5.heap.size < w8.heap.size; omega); obtain ⟨qAt, _, yAt⟩ := bcellAt hbt (b := w.heap.size) (by show w.heap.size < w8.heap.size; omega))
      | (go_at_call 10; refine (HEQ.out _ _ _ _ _ (hsame.trans hbt) (ovt.rd ivt) rfl rfl).mono ?_; rintro e w9 ⟨rfl, hbe⟩; obtain ⟨qUe, _, yUe⟩ := bcellAt hbe (b := w5.heap.size) yUt; obtain ⟨qAe, _, yAe⟩ := bcellAt hbe (b := w.heap.size) yAt))
  have hb9 : Below w8.heap.size w8 w9 := (hsame.trans hbt).trans (hbe.mono (hsame.trans hbt).size)
  clear HEQ HTO BBd hcf qUt qAt qUe qAe yUt yAt yUe yAe hbe hbt ovt ivt hsame
  have hbb9 : Below w8.heap.size w8 w9 := hb9
  have z9 := hbb9.size
  obtain ⟨qAp9, _, yAp9⟩ := bcellAt hb9 (b := w.heap.size) (by first | omega | (simp; done) | (simp; omega))
  obtain ⟨qS09, _, yS09⟩ := bcellAt hb9 (b := w4.heap.size) (by first | omega | (simp; done) | (simp; omega))
  obtain ⟨qUp9, _, yUp9⟩ := bcellAt hb9 (b := w5.heap.size) (by first | omega | (simp; done) | (simp; omega))
  obtain ⟨qG09, _, yG09⟩ := bcellAt hb9 (b := w7.heap.size) (by first | omega | (simp; done) | (simp; omega))
  have BB9 := Lib.hid (BB8.out.trans (hbb9.mono (by omega)))
  have os00_9 := Lib.hid (os00_8.out.below is00 (by omega) hbb9)
  have os01_9 := Lib.hid (os01_8.out.below is01 (by omega) hbb9)
  have oup0_9 := Lib.hid (oup0_8.out.below iup0 (by omega) hbb9)
  have oup1_9 := Lib.hid (oup1_8.out.below iup1 (by omega) hbb9)
  have oucs0_9 := Lib.hid (oucs0_8.out.below iucs0 (by omega) hbb9)
  have og00_9 := Lib.hid (og00_8.out.below ig00 (by omega) hbb9)
  have og01_9 := Lib.hid (og01_8.out.below ig01 (by omega) hbb9)
  clear hbb9
  go_wp2_with fail
  have BX10 : Hid (Below w.heap.size w w9) := BB9.out
  have zx10 := BX10.out.size
  refine (to_Int64S cs _ _ ((Hcs0.out.below BX10.out).mono zx10) (by omega)).mono ?_
  rintro e w10 ⟨ancs0, cncs0, fncs0, rfl, hb10, ov10, iqncs0⟩
  have incs0 := iqncs0.mono (lo' := w9.heap.size + 0) (by first | omega | (simp; done) | (simp; omega)) (Nat.le_refl _)
  clear iqncs0
  have hbb10 : Below w9.heap.size w9 w10 := hb10
  have z10 := hbb10.size
  obtain ⟨qAp10, _, yAp10⟩ := bcellAt hb10 (b := w.heap.size) (by first | omega | (simp; done) | (simp; omega))
  obtain ⟨qS010, _, yS010⟩ := bcellAt hb10 (b := w4.heap.size) (by first | omega | (simp; done) | (simp; omega))
  obtain ⟨qUp10, _, yUp10⟩ := bcellAt hb10 (b := w5.heap.size) (by first | omega | (simp; done) | (simp; omega))
  obtain ⟨qG010, _, yG010⟩ := bcellAt hb10 (b := w7.heap.size) (by first | omega | (simp; done) | (simp; omega))
  have BB10 := Lib.hid (BB9.out.trans (hbb10.mono (by omega)))
  have os00_10 := Lib.hid (os00_9.out.below is00 (by omega) hbb10)
  have os01_10 := Lib.hid (os01_9.out.below is01 (by omega) hbb10)
  have oup0_10 := Lib.hid (oup0_9.out.below iup0 (by omega) hbb10)
  have oup1_10 := Lib.hid (oup1_9.out.below iup1 (by omega) hbb10)
  have oucs0_10 := Lib.hid (oucs0_9.out.below iucs0 (by omega) hbb10)
  have og00_10 := Lib.hid (og00_9.out.below ig00 (by omega) hbb10)
  have og01_10 := Lib.hid (og01_9.out.below ig01 (by omega) hbb10)
  clear hbb10
  have oncs0_10 := Lib.hid ov10
  clear ov10
  go_wp2_with fail
  refine ((eq_Int64S cs _ _ w10.heap.size _ ((oucs0_10.out.rd iucs0).mono (by omega)) ((oncs0_10.out.rd incs0).mono (by omega)) (Nat.le_refl _) (by omega))).mono ?_
  rintro e w11 ⟨rfl, hb11⟩
  have hbb11 : Below w10.heap.size w10 w11 := hb11
  have z11 := hbb11.size
  obtain ⟨qAp11, _, yAp11⟩ := bcellAt hb11 (b := w.heap.size) (by first | omega | (simp; done) | (simp; omega))
  obtain ⟨qS011, _, yS011⟩ := bcellAt hb11 (b := w4.heap.size) (by first | omega | (simp; done) | (simp; omega))
  obtain ⟨qUp11, _, yUp11⟩ := bcellAt hb11 (b := w5.heap.size) (by first | omega | (simp; done) | (simp; omega))
  obtain ⟨qG011, _, yG011⟩ := bcellAt hb11 (b := w7.heap.size) (by first | omega | (simp; done) | (simp; omega))
  have BB11 := Lib.hid (BB10.out.trans (hbb11.mono (by omega)))
  have os00_11 := Lib.hid (os00_10.out.below is00 (by omega) hbb11)
  have os01_11 := Lib.hid (os01_10.out.below is01 (by omega) hbb11)
  have oup0_11 := Lib.hid (oup0_10.out.below iup0 (by omega) hbb11)
  have oup1_11 := Lib.hid (oup1_10.out.below iup1 (by omega) hbb11)
  have oucs0_11 := Lib.hid (oucs0_10.out.below iucs0 (by omega) hbb11)
  have og00_11 := Lib.hid (og00_10.out.below ig00 (by omega) hbb11)
  have og01_11 := Lib.hid (og01_10.out.below ig01 (by omega) hbb11)
  have oncs0_11 := Lib.hid (oncs0_10.out.below incs0 (by omega) hbb11)
  clear hbb11
  go_wp2_with fail
  refine (mark_Problem p _ _ g5_0 g5_1 (1) _ _ _ _ _ oup0_11.out iup0 (by first | omega | (simp; done) | (simp; omega)) oup1_11.out iup1 (by first | omega | (simp; done) | (simp; omega)) djup0_1 (by omega) (by omega) (by omega)).mono ?_
  rintro e w12 ⟨rfl, mup0, mup1, hc12⟩
  have hcc12 : Chg (g5_0 ++ g5_1) w11 w12 := hc12
  have z12 := hcc12.size
  have hkAp12 := hc12.block (w.heap.size) (by first | omega | (simp; done) | (simp; omega)) (fun e => by simp only [List.mem_append] at e; rcases e with e | e <;> first | (have h2 := iup0 _ e; omega) | (have h2 := iup1 _ e; omega))
  have qAp12 : ∀ o, w12.cell? ⟨w.heap.size, o, none⟩ = _ := fun o => World.cell?_of_block (a := ⟨w.heap.size, o, none⟩) hkAp12
  have yAp12 : w.heap.size < w12.heap.size := by first | omega | (have := hc12.size; simp at this; omega)
  clear hkAp12
  have hkS012 := hc12.block (w4.heap.size) (by first | omega | (simp; done) | (simp; omega)) (fun e => by simp only [List.mem_append] at e; rcases e with e | e <;> first | (have h2 := iup0 _ e; omega) | (have h2 := iup1 _ e; omega))
  have qS012 : ∀ o, w12.cell? ⟨w4.heap.size, o, none⟩ = _ := fun o => World.cell?_of_block (a := ⟨w4.heap.size, o, none⟩) hkS012
  have yS012 : w4.heap.size < w12.heap.size := by first | omega | (have := hc12.size; simp at this; omega)
  clear hkS012
  have hkUp12 := hc12.block (w5.heap.size) (by first | omega | (simp; done) | (simp; omega)) (fun e => by simp only [List.mem_append] at e; rcases e with e | e <;> first | (have h2 := iup0 _ e; omega) | (have h2 := iup1 _ e; omega))
  have qUp12 : ∀ o, w12.cell? ⟨w5.heap.size, o, none⟩ = _ := fun o => World.cell?_of_block (a := ⟨w5.heap.size, o, none⟩) hkUp12
  have yUp12 : w5.heap.size < w12.heap.size := by first | omega | (have := hc12.size; simp at this; omega)
  clear hkUp12
  have hkG012 := hc12.block (w7.heap.size) (by first | omega | (simp; done) | (simp; omega)) (fun e => by simp only [List.mem_append] at e; rcases e with e | e <;> first | (have h2 := iup0 _ e; omega) | (have h2 := iup1 _ e; omega))
  have qG012 : ∀ o, w12.cell? ⟨w7.heap.size, o, none⟩ = _ := fun o => World.cell?_of_block (a := ⟨w7.heap.size, o, none⟩) hkG012
  have yG012 : w7.heap.size < w12.heap.size := by first | omega | (have := hc12.size; simp at this; omega)
  clear hkG012
  have BB12 := Lib.hid (BB11.out.trans (hcc12.below (by omega) (fun x hx => by simp only [List.mem_append] at hx; rcases hx with hx | hx <;> first | (have h2 := iup0 x hx; omega) | (have h2 := iup1 x hx; omega))))
  have os00_12 := Lib.hid (os00_11.out.chg is00 (by omega) hcc12 (fun x hx e => by have hx0 := is00 x hx; simp only [List.mem_append] at e; rcases e with e | e <;> first | (have h2 := iup0 x e; omega) | (have h2 := iup1 x e; omega)))
  have os01_12 := Lib.hid (os01_11.out.chg is01 (by omega) hcc12 (fun x hx e => by have hx0 := is01 x hx; simp only [List.mem_append] at e; rcases e with e | e <;> first | (have h2 := iup0 x e; omega) | (have h2 := iup1 x e; omega)))
  have oucs0_12 := Lib.hid (oucs0_11.out.chg iucs0 (by omega) hcc12 (fun x hx e => by have hx0 := iucs0 x hx; simp only [List.mem_append] at e; rcases e with e | e <;> first | (have h2 := iup0 x e; omega) | (have h2 := iup1 x e; omega)))
  have og00_12 := Lib.hid (og00_11.out.chg ig00 (by omega) hcc12 (fun x hx e => by have hx0 := ig00 x hx; simp only [List.mem_append] at e; rcases e with e | e <;> first | (have h2 := iup0 x e; omega) | (have h2 := iup1 x e; omega)))
  have og01_12 := Lib.hid (og01_11.out.chg ig01 (by omega) hcc12 (fun x hx e => by have hx0 := ig01 x hx; simp only [List.mem_append] at e; rcases e with e | e <;> first | (have h2 := iup0 x e; omega) | (have h2 := iup1 x e; omega)))
  clear hcc12
  have koup0_12 := Lib.hid mup0
  clear mup0
  have koup1_12 := Lib.hid mup1
  clear mup1
  go_wp2_with fail
  refine (mark_Int64S cs _ fucs0 (1 + cnt (intssT p.domains) + cnt (intssT p.apart)) _ _ oucs0_12.out (iucs0.mono (Nat.le_refl _) (by first | omega | (simp; done) | (simp; omega))) (by omega) (by omega)).mono ?_
  rintro e w13 ⟨rfl, mucs0, hc13⟩
  have hcc13 : Chg fucs0 w12 w13 := hc13
  have z13 := hcc13.size
  have hkAp13 := hc13.block (w.heap.size) (by first | omega | (simp; done) | (simp; omega)) (fun e => by have h2 := iucs0 _ e; omega)
  have qAp13 : ∀ o, w13.cell? ⟨w.heap.size, o, none⟩ = _ := fun o => World.cell?_of_block (a := ⟨w.heap.size, o, none⟩) hkAp13
  have yAp13 : w.heap.size < w13.heap.size := by first | omega | (have := hc13.size; simp at this; omega)
  clear hkAp13
  have hkS013 := hc13.block (w4.heap.size) (by first | omega | (simp; done) | (simp; omega)) (fun e => by have h2 := iucs0 _ e; omega)
  have qS013 : ∀ o, w13.cell? ⟨w4.heap.size, o, none⟩ = _ := fun o => World.cell?_of_block (a := ⟨w4.heap.size, o, none⟩) hkS013
  have yS013 : w4.heap.size < w13.heap.size := by first | omega | (have := hc13.size; simp at this; omega)
  clear hkS013
  have hkUp13 := hc13.block (w5.heap.size) (by first | omega | (simp; done) | (simp; omega)) (fun e => by have h2 := iucs0 _ e; omega)
  have qUp13 : ∀ o, w13.cell? ⟨w5.heap.size, o, none⟩ = _ := fun o => World.cell?_of_block (a := ⟨w5.heap.size, o, none⟩) hkUp13
  have yUp13 : w5.heap.size < w13.heap.size := by first | omega | (have := hc13.size; simp at this; omega)
  clear hkUp13
  have hkG013 := hc13.block (w7.heap.size) (by first | omega | (simp; done) | (simp; omega)) (fun e => by have h2 := iucs0 _ e; omega)
  have qG013 : ∀ o, w13.cell? ⟨w7.heap.size, o, none⟩ = _ := fun o => World.cell?_of_block (a := ⟨w7.heap.size, o, none⟩) hkG013
  have yG013 : w7.heap.size < w13.heap.size := by first | omega | (have := hc13.size; simp at this; omega)
  clear hkG013
  have BB13 := Lib.hid (BB12.out.trans (hcc13.below (by omega) (fun x hx => by have h2 := iucs0 x hx; omega)))
  have os00_13 := Lib.hid (os00_12.out.chg is00 (by omega) hcc13 (fun x hx e => by have hx0 := is00 x hx; have h2 := iucs0 x e; omega))
  have os01_13 := Lib.hid (os01_12.out.chg is01 (by omega) hcc13 (fun x hx e => by have hx0 := is01 x hx; have h2 := iucs0 x e; omega))
  have og00_13 := Lib.hid (og00_12.out.chg ig00 (by omega) hcc13 (fun x hx e => by have hx0 := ig00 x hx; have h2 := iucs0 x e; omega))
  have og01_13 := Lib.hid (og01_12.out.chg ig01 (by omega) hcc13 (fun x hx e => by have hx0 := ig01 x hx; have h2 := iucs0 x e; omega))
  clear hcc13
  have koucs0_13 := Lib.hid mucs0
  clear mucs0
  have kd13 : decide (((1 + cnt (intssT p.domains) + cnt (intssT p.apart) + cnt (intsT cs) : Nat) : Int) < 0) = false := by simp; omega
  go_wp2_with fail
  refine ((eq_Problem R.1 _ _ _ _ w13.heap.size _ ((og00_13.out.rd ig00).mono (by omega)) ((os00_13.out.rd is00).mono (by omega)) ((og01_13.out.rd ig01).mono (by omega)) ((os01_13.out.rd is01).mono (by omega)) (Nat.le_refl _) (by omega))).mono ?_
  rintro e w14 ⟨rfl, hb14⟩
  have hbb14 : Below w13.heap.size w13 w14 := hb14
  have z14 := hbb14.size
  obtain ⟨qAp14, _, yAp14⟩ := bcellAt hb14 (b := w.heap.size) (by first | omega | (simp; done) | (simp; omega))
  obtain ⟨qS014, _, yS014⟩ := bcellAt hb14 (b := w4.heap.size) (by first | omega | (simp; done) | (simp; omega))
  obtain ⟨qUp14, _, yUp14⟩ := bcellAt hb14 (b := w5.heap.size) (by first | omega | (simp; done) | (simp; omega))
  obtain ⟨qG014, _, yG014⟩ := bcellAt hb14 (b := w7.heap.size) (by first | omega | (simp; done) | (simp; omega))
  have BB14 := Lib.hid (BB13.out.trans (hbb14.mono (by omega)))
  have os00_14 := Lib.hid (os00_13.out.below is00 (by omega) hbb14)
  have os01_14 := Lib.hid (os01_13.out.below is01 (by omega) hbb14)
  have og00_14 := Lib.hid (og00_13.out.below ig00 (by omega) hbb14)
  have og01_14 := Lib.hid (og01_13.out.below ig01 (by omega) hbb14)
  clear hbb14
  go_wp2_with fail
  refine (mark_Problem R.1 _ _ g7_0 g7_1 (1) _ _ _ _ _ og00_14.out ig00 (by first | omega | (simp; done) | (simp; omega)) og01_14.out ig01 (by first | omega | (simp; done) | (simp; omega)) djg00_1 (by omega) (by omega) (by omega)).mono ?_
  rintro e w15 ⟨rfl, mg00, mg01, hc15⟩
  have hcc15 : Chg (g7_0 ++ g7_1) w14 w15 := hc15
  have z15 := hcc15.size
  have hkAp15 := hc15.block (w.heap.size) (by first | omega | (simp; done) | (simp; omega)) (fun e => by simp only [List.mem_append] at e; rcases e with e | e <;> first | (have h2 := ig00 _ e; omega) | (have h2 := ig01 _ e; omega))
  have qAp15 : ∀ o, w15.cell? ⟨w.heap.size, o, none⟩ = _ := fun o => World.cell?_of_block (a := ⟨w.heap.size, o, none⟩) hkAp15
  have yAp15 : w.heap.size < w15.heap.size := by first | omega | (have := hc15.size; simp at this; omega)
  clear hkAp15
  have hkS015 := hc15.block (w4.heap.size) (by first | omega | (simp; done) | (simp; omega)) (fun e => by simp only [List.mem_append] at e; rcases e with e | e <;> first | (have h2 := ig00 _ e; omega) | (have h2 := ig01 _ e; omega))
  have qS015 : ∀ o, w15.cell? ⟨w4.heap.size, o, none⟩ = _ := fun o => World.cell?_of_block (a := ⟨w4.heap.size, o, none⟩) hkS015
  have yS015 : w4.heap.size < w15.heap.size := by first | omega | (have := hc15.size; simp at this; omega)
  clear hkS015
  have hkUp15 := hc15.block (w5.heap.size) (by first | omega | (simp; done) | (simp; omega)) (fun e => by simp only [List.mem_append] at e; rcases e with e | e <;> first | (have h2 := ig00 _ e; omega) | (have h2 := ig01 _ e; omega))
  have qUp15 : ∀ o, w15.cell? ⟨w5.heap.size, o, none⟩ = _ := fun o => World.cell?_of_block (a := ⟨w5.heap.size, o, none⟩) hkUp15
  have yUp15 : w5.heap.size < w15.heap.size := by first | omega | (have := hc15.size; simp at this; omega)
  clear hkUp15
  have hkG015 := hc15.block (w7.heap.size) (by first | omega | (simp; done) | (simp; omega)) (fun e => by simp only [List.mem_append] at e; rcases e with e | e <;> first | (have h2 := ig00 _ e; omega) | (have h2 := ig01 _ e; omega))
  have qG015 : ∀ o, w15.cell? ⟨w7.heap.size, o, none⟩ = _ := fun o => World.cell?_of_block (a := ⟨w7.heap.size, o, none⟩) hkG015
  have yG015 : w7.heap.size < w15.heap.size := by first | omega | (have := hc15.size; simp at this; omega)
  clear hkG015
  have BB15 := Lib.hid (BB14.out.trans (hcc15.below (by omega) (fun x hx => by simp only [List.mem_append] at hx; rcases hx with hx | hx <;> first | (have h2 := ig00 x hx; omega) | (have h2 := ig01 x hx; omega))))
  have os00_15 := Lib.hid (os00_14.out.chg is00 (by omega) hcc15 (fun x hx e => by have hx0 := is00 x hx; simp only [List.mem_append] at e; rcases e with e | e <;> first | (have h2 := ig00 x e; omega) | (have h2 := ig01 x e; omega)))
  have os01_15 := Lib.hid (os01_14.out.chg is01 (by omega) hcc15 (fun x hx e => by have hx0 := is01 x hx; simp only [List.mem_append] at e; rcases e with e | e <;> first | (have h2 := ig00 x e; omega) | (have h2 := ig01 x e; omega)))
  clear hcc15
  have kog00_15 := Lib.hid mg00
  clear mg00
  have kog01_15 := Lib.hid mg01
  clear mg01
  go_wp2_with fail
  refine (held_Problem R.1 _ _ w15.heap.size (1) _ ((kog00_15.out.rd ig00).mono (by omega)) ((kog01_15.out.rd ig01).mono (by omega)) (Nat.le_refl _) (by omega) (by omega) (by omega)).mono ?_
  rintro e w16 ⟨rfl, hb16⟩
  have hbb16 : Below w15.heap.size w15 w16 := hb16
  have z16 := hbb16.size
  obtain ⟨qAp16, _, yAp16⟩ := bcellAt hb16 (b := w.heap.size) (by first | omega | (simp; done) | (simp; omega))
  obtain ⟨qS016, _, yS016⟩ := bcellAt hb16 (b := w4.heap.size) (by first | omega | (simp; done) | (simp; omega))
  obtain ⟨qUp16, _, yUp16⟩ := bcellAt hb16 (b := w5.heap.size) (by first | omega | (simp; done) | (simp; omega))
  obtain ⟨qG016, _, yG016⟩ := bcellAt hb16 (b := w7.heap.size) (by first | omega | (simp; done) | (simp; omega))
  have BB16 := Lib.hid (BB15.out.trans (hbb16.mono (by omega)))
  have os00_16 := Lib.hid (os00_15.out.below is00 (by omega) hbb16)
  have os01_16 := Lib.hid (os01_15.out.below is01 (by omega) hbb16)
  have kog00_16 := Lib.hid (kog00_15.out.below ig00 (by omega) hbb16)
  have kog01_16 := Lib.hid (kog01_15.out.below ig01 (by omega) hbb16)
  clear hbb16
  go_wp2_with fail
  have BX17 : Hid (Below w.heap.size w w16) := BB16.out
  have zx17 := BX17.out.size
  refine (to_Problem p _ _ _ ((Hp0.out.below BX17.out).mono zx17) ((Hp1.out.below BX17.out).mono zx17) (by omega)).mono ?_
  rintro e w17 ⟨amp0, cmp0, amp1, cmp1, fmp, rfl, hb17, ov17, iv17⟩
  have hbb17 : Below w16.heap.size w16 w17 := hb17
  have z17 := hbb17.size
  obtain ⟨qAp17, _, yAp17⟩ := bcellAt hb17 (b := w.heap.size) (by first | omega | (simp; done) | (simp; omega))
  obtain ⟨qS017, _, yS017⟩ := bcellAt hb17 (b := w4.heap.size) (by first | omega | (simp; done) | (simp; omega))
  obtain ⟨qUp17, _, yUp17⟩ := bcellAt hb17 (b := w5.heap.size) (by first | omega | (simp; done) | (simp; omega))
  obtain ⟨qG017, _, yG017⟩ := bcellAt hb17 (b := w7.heap.size) (by first | omega | (simp; done) | (simp; omega))
  have BB17 := Lib.hid (BB16.out.trans (hbb17.mono (by omega)))
  have os00_17 := Lib.hid (os00_16.out.below is00 (by omega) hbb17)
  have os01_17 := Lib.hid (os01_16.out.below is01 (by omega) hbb17)
  have kog00_17 := Lib.hid (kog00_16.out.below ig00 (by omega) hbb17)
  have kog01_17 := Lib.hid (kog01_16.out.below ig01 (by omega) hbb17)
  clear hbb17
  obtain ⟨g17_0, r17_0, e17_0, p17_0, ov17_0, d17_0⟩ := OwnV.uncons ov17
  obtain ⟨g17_1, r17_1, e17_1, p17_1, ov17_1, d17_1⟩ := OwnV.uncons ov17_0
  have iw17 := iv17.mono (lo' := w16.heap.size + 0) (by first | omega | (simp; done) | (simp; omega)) (Nat.le_refl _)
  have hnil17 := ov17_1.rep
  change r17_1 = [] at hnil17
  subst hnil17
  subst e17_1
  subst e17_0
  have imp0 : In _ _ g17_0 := fun y hy => iw17 y (by simp [hy])
  have omp0_17 := Lib.hid p17_0
  have imp1 : In _ _ g17_1 := fun y hy => iw17 y (by simp [hy])
  have omp1_17 := Lib.hid p17_1
  have djmp0_1 : ∀ y ∈ g17_0, y ∉ g17_1 := fun y hy e => d17_0 y hy (by simp [e])
  clear p17_0 ov17_0 d17_0 p17_1 ov17_1 d17_1 ov17 iv17 iw17
  go_wp2_with fail
  have BX18 : Hid (Below w.heap.size w w17) := BB17.out
  have zx18 := BX18.out.size
  refine (to_Int64S cs _ _ ((Hcs0.out.below BX18.out).mono zx18) (by omega)).mono ?_
  rintro e w18 ⟨amcs0, cmcs0, fmcs0, rfl, hb18, ov18, iqmcs0⟩
  have imcs0 := iqmcs0.mono (lo' := w17.heap.size + 0) (by first | omega | (simp; done) | (simp; omega)) (Nat.le_refl _)
  clear iqmcs0
  have hbb18 : Below w17.heap.size w17 w18 := hb18
  have z18 := hbb18.size
  obtain ⟨qAp18, _, yAp18⟩ := bcellAt hb18 (b := w.heap.size) (by first | omega | (simp; done) | (simp; omega))
  obtain ⟨qS018, _, yS018⟩ := bcellAt hb18 (b := w4.heap.size) (by first | omega | (simp; done) | (simp; omega))
  obtain ⟨qUp18, _, yUp18⟩ := bcellAt hb18 (b := w5.heap.size) (by first | omega | (simp; done) | (simp; omega))
  obtain ⟨qG018, _, yG018⟩ := bcellAt hb18 (b := w7.heap.size) (by first | omega | (simp; done) | (simp; omega))
  have BB18 := Lib.hid (BB17.out.trans (hbb18.mono (by omega)))
  have os00_18 := Lib.hid (os00_17.out.below is00 (by omega) hbb18)
  have os01_18 := Lib.hid (os01_17.out.below is01 (by omega) hbb18)
  have kog00_18 := Lib.hid (kog00_17.out.below ig00 (by omega) hbb18)
  have kog01_18 := Lib.hid (kog01_17.out.below ig01 (by omega) hbb18)
  have omp0_18 := Lib.hid (omp0_17.out.below imp0 (by omega) hbb18)
  have omp1_18 := Lib.hid (omp1_17.out.below imp1 (by omega) hbb18)
  clear hbb18
  have omcs0_18 := Lib.hid ov18
  clear ov18
  go_wp2_with fail
  refine (HI.out _ _ _ _ ((omp0_18.out.rd imp0).mono (by omega)) ((omp1_18.out.rd imp1).mono (by omega)) ((omcs0_18.out.rd imcs0).mono (by omega)) (by omega) (by omega)).mono ?_
  rintro e w19 ⟨ah00, ch00, ah01, ch01, fh0, rfl, hb19, ov19, iv19⟩
  have hbb19 : Below w18.heap.size w18 w19 := hb19
  have z19 := hbb19.size
  obtain ⟨qAp19, _, yAp19⟩ := bcellAt hb19 (b := w.heap.size) (by first | omega | (simp; done) | (simp; omega))
  obtain ⟨qS019, _, yS019⟩ := bcellAt hb19 (b := w4.heap.size) (by first | omega | (simp; done) | (simp; omega))
  obtain ⟨qUp19, _, yUp19⟩ := bcellAt hb19 (b := w5.heap.size) (by first | omega | (simp; done) | (simp; omega))
  obtain ⟨qG019, _, yG019⟩ := bcellAt hb19 (b := w7.heap.size) (by first | omega | (simp; done) | (simp; omega))
  have BB19 := Lib.hid (BB18.out.trans (hbb19.mono (by omega)))
  have os00_19 := Lib.hid (os00_18.out.below is00 (by omega) hbb19)
  have os01_19 := Lib.hid (os01_18.out.below is01 (by omega) hbb19)
  have kog00_19 := Lib.hid (kog00_18.out.below ig00 (by omega) hbb19)
  have kog01_19 := Lib.hid (kog01_18.out.below ig01 (by omega) hbb19)
  have omp0_19 := Lib.hid (omp0_18.out.below imp0 (by omega) hbb19)
  have omp1_19 := Lib.hid (omp1_18.out.below imp1 (by omega) hbb19)
  have omcs0_19 := Lib.hid (omcs0_18.out.below imcs0 (by omega) hbb19)
  clear hbb19
  obtain ⟨g19_0, r19_0, e19_0, p19_0, ov19_0, d19_0⟩ := OwnV.uncons ov19
  obtain ⟨g19_1, r19_1, e19_1, p19_1, ov19_1, d19_1⟩ := OwnV.uncons ov19_0
  have iw19 := iv19.mono (lo' := w18.heap.size + 0) (by first | omega | (simp; done) | (simp; omega)) (Nat.le_refl _)
  have hnil19 := ov19_1.rep
  change r19_1 = [] at hnil19
  subst hnil19
  subst e19_1
  subst e19_0
  have ih00 : In _ _ g19_0 := fun y hy => iw19 y (by simp [hy])
  have oh00_19 := Lib.hid p19_0
  have ih01 : In _ _ g19_1 := fun y hy => iw19 y (by simp [hy])
  have oh01_19 := Lib.hid p19_1
  have djh00_1 : ∀ y ∈ g19_0, y ∉ g19_1 := fun y hy e => d19_0 y hy (by simp [e])
  clear p19_0 ov19_0 d19_0 p19_1 ov19_1 d19_1 ov19 iv19 iw19
  go_wp2_with fail
  refine ((eq_Problem R.1 _ _ _ _ (w19.alloc (.cells #[.slice ah00 R.1.domains.length ch00, .slice ah01 R.1.apart.length ch01] 26)).heap.size _ (((oh00_19.out.below ih00 (by omega) ((Below.refl _ _).alloc (Nat.le_refl _) _)).rd ih00).mono (by first | omega | (simp; done) | (simp; omega))) (((os00_19.out.below is00 (by omega) ((Below.refl _ _).alloc (Nat.le_refl _) _)).rd is00).mono (by first | omega | (simp; done) | (simp; omega))) (((oh01_19.out.below ih01 (by omega) ((Below.refl _ _).alloc (Nat.le_refl _) _)).rd ih01).mono (by first | omega | (simp; done) | (simp; omega))) (((os01_19.out.below is01 (by omega) ((Below.refl _ _).alloc (Nat.le_refl _) _)).rd is01).mono (by first | omega | (simp; done) | (simp; omega))) (Nat.le_refl _) (by omega))).mono ?_
  rintro e w20 ⟨rfl, hb20⟩
  have hx20 : Below w19.heap.size w19 (w19.alloc (.cells #[.slice ah00 R.1.domains.length ch00, .slice ah01 R.1.apart.length ch01] 26)) := ((Below.refl _ _).alloc (Nat.le_refl _) _)
  have hbb20 : Below w19.heap.size w19 w20 := hx20.trans (hb20.mono (by first | (simp; done) | (simp; omega)))
  have z20 := hbb20.size
  obtain ⟨qAp20, _, yAp20⟩ := bcellAt hb20 (b := w.heap.size) (by first | omega | (simp; done) | (simp; omega))
  obtain ⟨qS020, _, yS020⟩ := bcellAt hb20 (b := w4.heap.size) (by first | omega | (simp; done) | (simp; omega))
  obtain ⟨qUp20, _, yUp20⟩ := bcellAt hb20 (b := w5.heap.size) (by first | omega | (simp; done) | (simp; omega))
  obtain ⟨qG020, _, yG020⟩ := bcellAt hb20 (b := w7.heap.size) (by first | omega | (simp; done) | (simp; omega))
  obtain ⟨qH020, _, yH020⟩ := bcellAt hb20 (b := w19.heap.size) (by first | omega | (simp; done) | (simp; omega))
  have BB20 := Lib.hid (BB19.out.trans (hbb20.mono (by omega)))
  have os00_20 := Lib.hid (os00_19.out.below is00 (by omega) hbb20)
  have os01_20 := Lib.hid (os01_19.out.below is01 (by omega) hbb20)
  have kog00_20 := Lib.hid (kog00_19.out.below ig00 (by omega) hbb20)
  have kog01_20 := Lib.hid (kog01_19.out.below ig01 (by omega) hbb20)
  have oh00_20 := Lib.hid (oh00_19.out.below ih00 (by omega) hbb20)
  have oh01_20 := Lib.hid (oh01_19.out.below ih01 (by omega) hbb20)
  clear hx20
  clear hb20 hbb20
  go_wp2_with fail
  refine (held_Problem R.1 _ _ w20.heap.size (1) _ ((kog00_20.out.rd ig00).mono (by omega)) ((kog01_20.out.rd ig01).mono (by omega)) (Nat.le_refl _) (by omega) (by omega) (by omega)).mono ?_
  rintro e w21 ⟨rfl, hb21⟩
  have hbb21 : Below w20.heap.size w20 w21 := hb21
  have z21 := hbb21.size
  obtain ⟨qAp21, _, yAp21⟩ := bcellAt hb21 (b := w.heap.size) (by first | omega | (simp; done) | (simp; omega))
  obtain ⟨qS021, _, yS021⟩ := bcellAt hb21 (b := w4.heap.size) (by first | omega | (simp; done) | (simp; omega))
  obtain ⟨qUp21, _, yUp21⟩ := bcellAt hb21 (b := w5.heap.size) (by first | omega | (simp; done) | (simp; omega))
  obtain ⟨qG021, _, yG021⟩ := bcellAt hb21 (b := w7.heap.size) (by first | omega | (simp; done) | (simp; omega))
  obtain ⟨qH021, _, yH021⟩ := bcellAt hb21 (b := w19.heap.size) (by first | omega | (simp; done) | (simp; omega))
  have BB21 := Lib.hid (BB20.out.trans (hbb21.mono (by omega)))
  have kog00_21 := Lib.hid (kog00_20.out.below ig00 (by omega) hbb21)
  have kog01_21 := Lib.hid (kog01_20.out.below ig01 (by omega) hbb21)
  clear hbb21
  go_wp2
  go_ret
  exact ⟨rfl, BB21.out⟩
end Go.Proofs.Ytknjgppdmdfmoaa.fnExactRestrict
