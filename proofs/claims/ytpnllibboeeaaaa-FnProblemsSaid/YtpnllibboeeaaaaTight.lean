/- Contracts: Tighten of the program and of the reference. Conditions: bounded lengths. -/
import Derived.Test.YtpnllibboeeaaaaProb6
namespace Go.Proofs.Ytpnllibboeeaaaa
open Go.RowKit
set_option linter.unusedVariables false

noncomputable def tightR (p : DProblem) (a b x : Int) : DProblem × Int :=
  if vP p = true then
    if inB a 0 ((p.domains.length : Int) - 1) = true ∧ inB b 0 ((p.domains.length : Int) - 1) = true ∧ a ≠ b ∧ inB x 0 100 = true then
      (⟨p.domains, set2 (set2 p.apart a.toNat b.toNat (max (ap p.apart a.toNat b.toNat) x)) b.toNat a.toNat (max (ap p.apart a.toNat b.toNat) x)⟩, 0)
    else (⟨[], []⟩, 2)
  else (⟨[], []⟩, 1)
/-- what a function returns that gives a problem and a code: new memory -/
def NewP (r : DProblem × Int) (w : World) (e : Ending) (w' : World) : Prop :=
  ∃ a1 c1 a2 c2 f1 f2, e = .returned (.tuple #[.agg #[.slice a1 r.1.domains.length c1, .slice a2 r.1.apart.length c2], .int .i64 r.2]) ∧ Below w.heap.size w w' ∧
    Own w' (intssT r.1.domains) (.slice a1 r.1.domains.length c1) f1 ∧ Own w' (intssT r.1.apart) (.slice a2 r.1.apart.length c2) f2 ∧ In w.heap.size w'.heap.size f1 ∧ In w.heap.size w'.heap.size f2 ∧ ∀ y ∈ f1, y ∉ f2
theorem own_nil (w : World) : Own w (intssT []) (.slice none 0 0) [] := ⟨Rep_sl.2 ⟨none, 0, 0, rfl, rfl, Nat.le_refl _, by unfold maxLen; omega, Or.inl ⟨rfl, rfl⟩⟩, List.nodup_nil, fun b h => by simp at h⟩
theorem NewP.none_ {w w' : World} {c : Int} {e : Ending} (he : e = .returned (.tuple #[.agg #[.slice none 0 0, .slice none 0 0], .int .i64 c])) (hb : Below w.heap.size w w') : NewP (⟨[], []⟩, c) w e w' :=
  ⟨none, 0, none, 0, [], [], he, hb, own_nil _, own_nil _, In.nil, In.nil, fun y h => by simp at h⟩
theorem set2_len (m : List (List Int)) (i j : Nat) (u : Int) : (set2 m i j u).length = m.length := by simp [set2]

theorem tightenI_any (m : List (List Int)) (d v : Value) (fp : List Nat) (a b : Nat) (xa xb : Int) (x : Int) (w : World) (h : Own w (intssT m) v fp) (lo : Nat) (hin : In lo w.heap.size fp) (ha : a < m.length) (hb : b < m.length) (hra : b < (row m a).length) (hrb : a < (row m b).length) (hab : a ≠ b) (hm : m.length ≤ 24) (ea : xa = (a : Int)) (eb : xb = (b : Int)) :
    Calls Try.prog 26 #[.agg #[d, v], .int .i64 xa, .int .i64 xb, .int .i64 x] w fun e w' => e = .returned (.tuple #[]) ∧ Own w' (intssT (set2 (set2 m a b (max (ap m a b) x)) b a (max (ap m a b) x))) v fp ∧ Chg fp w w' := by
  subst ea eb
  exact tighten_any m d v fp a b x w h lo hin ha hb hra hrb hab hm
set_option maxHeartbeats 4000000 in
theorem iTighten_any (p : DProblem) (d a : Value) (x y z : Int) (w : World) (hd : Rd w.heap.size w (intssT p.domains) d) (ha : Rd w.heap.size w (intssT p.apart) a) (hs : siz (intssT p.domains) ≤ 1048576) (hs2 : siz (intssT p.apart) ≤ 1048576) :
    Calls Try.prog 11 #[.agg #[d, a], .int .i64 x, .int .i64 y, .int .i64 z] w (NewP (tightR p x y z) w) := by
  have hln : p.domains.length ≤ 1048576 := by rw [siz_intss] at hs; omega
  have b0 : Below w.heap.size w ((w.alloc (.cells #[d, a] 26)).alloc (.cells #[.slice none 0 0, .slice none 0 0] 26)) := ((Below.refl _ _).alloc (Nat.le_refl _) _).alloc (by simp) _
  have y0 : w.heap.size + 2 ≤ ((w.alloc (.cells #[d, a] 26)).alloc (.cells #[.slice none 0 0, .slice none 0 0] 26)).heap.size := by first | (simp; done) | (simp; omega)
  have HV := Lib.hid (iValidProblem_any p d a w.heap.size _ (hd.below b0) (ha.below b0) (by omega) (by omega) (by omega))
  have HI : ∀ (W : World) (k : Int), Below w.heap.size w W → Calls Try.prog 23 #[.agg #[d, a], .int .i64 k] W fun e w' => e = .returned (.bool (inB k 0 ((p.domains.length : Int) - 1))) ∧ Below W.heap.size W w' :=
    fun W k hW => hasItem_any p d a w.heap.size k W (hd.below hW) (by omega)
  have HIh := Lib.hid HI
  have HC : ∀ (W : World) (hW : Below w.heap.size w W), _ := fun W hW => clone_any p d a W ((hd.below hW).mono hW.size) ((ha.below hW).mono hW.size) hs hs2
  have HCh := Lib.hid HC
  have B0 := Lib.hid b0
  clear HI HC b0 hd ha
  by_cases v1 : vP p = true
  · have V1 := Lib.hid v1
    clear v1
    go_enter Try.func11, Try.ntmps11
    go_wp2_with fail
    refine (HV.out).mono ?_
    rintro e w1 ⟨rfl, hb1⟩
    rw [V1.out]
    obtain ⟨qa1, _, ya1⟩ := bcellAt hb1 (b := w.heap.size) (by omega)
    obtain ⟨qb1, qf1, yb1⟩ := bcellAt hb1 (b := w.heap.size + 1) (by omega)
    have B1 := Lib.hid (B0.out.trans (hb1.mono B0.out.size))
    clear hb1
    go_wp2_with fail
    refine (HIh.out _ _ B1.out).mono ?_
    rintro e w2 ⟨rfl, hb2⟩
    obtain ⟨qa2, _, ya2⟩ := bcellAt hb2 (b := w.heap.size) ya1
    obtain ⟨qb2, qf2, yb2⟩ := bcellAt hb2 (b := w.heap.size + 1) yb1
    have B2 := Lib.hid (B1.out.trans (hb2.mono B1.out.size))
    clear hb2
    by_cases c1 : inB x 0 ((p.domains.length : Int) - 1) = true
    · rw [c1]
      have C1 := Lib.hid c1
      clear c1
      go_wp2_with fail
      refine (HIh.out _ _ B2.out).mono ?_
      rintro e w3 ⟨rfl, hb3⟩
      obtain ⟨qa3, _, ya3⟩ := bcellAt hb3 (b := w.heap.size) ya2
      obtain ⟨qb3, qf3, yb3⟩ := bcellAt hb3 (b := w.heap.size + 1) yb2
      have B3 := Lib.hid (B2.out.trans (hb3.mono B2.out.size))
      clear hb3
      by_cases c2 : inB y 0 ((p.domains.length : Int) - 1) = true
      · rw [c2]
        have C2 := Lib.hid c2
        clear c2
        by_cases c3 : x = y
        · have c3' : (x == y) = true := by simpa using c3
          have hR : tightR p x y z = (⟨[], []⟩, 2) := by unfold tightR; rw [if_pos V1.out, if_neg (fun h => h.2.2.1 c3)]
          have HR := Lib.hid hR
          clear hR c3
          go_wp2
          exact bodyPost_ret (v := .tuple #[.agg #[.slice none 0 0, .slice none 0 0], .int .i64 2]) (by simp [results, Try.results11, go_sem, *]) rfl (by rw [HR.out]; exact NewP.none_ rfl ((B3.out.setCell (p := ⟨w.heap.size + 1, 0, none⟩) (by show w.heap.size ≤ w.heap.size + 1; omega) _).setCell (p := ⟨w.heap.size + 1, 1, none⟩) (by show w.heap.size ≤ w.heap.size + 1; omega) _))
        · have c3' : (x == y) = false := by simpa using c3
          have C3 := Lib.hid c3
          clear c3
          go_wp2_with fail
          refine (within_any _ _ _ _).mono ?_
          rintro e w4 ⟨rfl, rfl⟩
          by_cases c4 : inB z 0 100 = true
          · rw [c4]
            have C4 := Lib.hid c4
            clear c4
            go_wp2_with fail
            refine (HCh.out _ B3.out).mono ?_
            rintro e w5 ⟨a1, k1, a2, k2, f1, f2, rfl, hb5, o1, o2, i1, i2, dj⟩
            have hx := inB_true.1 C1.out
            have hy := inB_true.1 C2.out
            obtain ⟨nx, ex⟩ := Int.eq_ofNat_of_zero_le hx.1
            obtain ⟨ny, ey⟩ := Int.eq_ofNat_of_zero_le hy.1
            have hvp := vP_iff.1 V1.out
            have hl := hvp.len
            have hnx : nx < p.apart.length := by omega
            have hny : ny < p.apart.length := by omega
            have hrx : (row p.apart nx).length = p.domains.length := (hvp.rows nx (by omega)).len
            have hry : (row p.apart ny).length = p.domains.length := (hvp.rows ny (by omega)).len
            have hn24 := hvp.n2
            have z5 := hb5.size
            have b6 : Below w5.heap.size w5 (w5.alloc (.cells #[.slice a1 p.domains.length k1, .slice a2 p.apart.length k2] 26)) := (Below.refl _ _).alloc (Nat.le_refl _) _
            have O1 := Lib.hid (o1.below i1 (Nat.le_refl _) b6)
            have HT := Lib.hid (tightenI_any p.apart (.slice a1 p.domains.length k1) (.slice a2 p.apart.length k2) f2 nx ny x y z _ (o2.below i2 (Nat.le_refl _) b6) w3.heap.size (i2.mono (Nat.le_refl _) b6.size) hnx hny (by omega) (by omega) (fun e => C3.out (by omega)) (by omega) ex ey)
            have hR : tightR p x y z = (⟨p.domains, set2 (set2 p.apart nx ny (max (ap p.apart nx ny) z)) ny nx (max (ap p.apart nx ny) z)⟩, 0) := by
              unfold tightR
              rw [if_pos V1.out, if_pos ⟨C1.out, C2.out, C3.out, C4.out⟩]
              subst ex ey
              simp only [Int.toNat_natCast]
            have HR := Lib.hid hR
            obtain ⟨qb5, qf5, yb5⟩ := bcellAt hb5 (b := w.heap.size + 1) yb3
            have B5 := Lib.hid (B3.out.trans (hb5.mono B3.out.size))
            have yw := B3.out.size
            clear hx hy ex ey hvp hl hnx hny hrx hry hn24 hb5 o1 o2 hR b6
            go_wp2_with fail
            refine (HT.out).mono ?_
            rintro e w6 ⟨rfl, o6, hc6⟩
            have z6 := hc6.size
            simp at z6
            have qd : ∀ q, w6.cell? ⟨w5.heap.size, q, none⟩ = _ := fun q => World.cell?_of_block (a := ⟨w5.heap.size, q, none⟩) (hc6.block w5.heap.size (by simp) (fun e => by have := (i2 _ e).2; omega))
            have qe : ∀ q, w6.cell? ⟨w.heap.size + 1, q, none⟩ = _ := fun q => World.cell?_of_block (a := ⟨w.heap.size + 1, q, none⟩) (hc6.block (w.heap.size + 1) (by simp; omega) (fun e => by have := (i2 _ e).1; omega))
            have qg : ∀ q, w6.frozen? ⟨w.heap.size + 1, q, none⟩ = _ := fun q => World.frozen?_of_block (a := ⟨w.heap.size + 1, q, none⟩) (hc6.block (w.heap.size + 1) (by simp; omega) (fun e => by have := (i2 _ e).1; omega))
            have B6 := Lib.hid ((B5.out.alloc B5.out.size (.cells #[.slice a1 p.domains.length k1, .slice a2 p.apart.length k2] 26)).trans (hc6.below (by simp; omega) (fun q hq => by have := (i2 q hq).1; omega)))
            have O16 := Lib.hid (O1.out.chg (i1.mono (Nat.le_refl _) (Nat.le_succ _)) (by simp) hc6 dj)
            have O26 := Lib.hid o6
            clear hc6 o6 O1
            go_wp2
            refine bodyPost_ret (v := .tuple #[.agg #[.slice a1 p.domains.length k1, .slice a2 p.apart.length k2], .int .i64 0]) (by simp [results, Try.results11, go_sem, *]) rfl ?_
            rw [HR.out]
            refine ⟨a1, k1, a2, k2, f1, f2, by simp only [set2_len], (B6.out.setCell (p := ⟨w.heap.size + 1, 0, none⟩) (by show w.heap.size ≤ w.heap.size + 1; omega) _).setCell (p := ⟨w.heap.size + 1, 1, none⟩) (by show w.heap.size ≤ w.heap.size + 1; omega) _, ?_, ?_, ?_, ?_, dj⟩
            · exact (O16.out.setFar (p := ⟨w.heap.size + 1, 0, none⟩) (fun e => by have := (i1 _ e).1; simp only at this; omega) _).setFar (p := ⟨w.heap.size + 1, 1, none⟩) (fun e => by have := (i1 _ e).1; simp only at this; omega) _
            · simp only [set2_len]
              exact (O26.out.setFar (p := ⟨w.heap.size + 1, 0, none⟩) (fun e => by have := (i2 _ e).1; simp only at this; omega) _).setFar (p := ⟨w.heap.size + 1, 1, none⟩) (fun e => by have := (i2 _ e).1; simp only at this; omega) _
            · simp only [size_setCell]; exact i1.mono (by omega) (by omega)
            · simp only [size_setCell]; exact i2.mono (by omega) (by omega)
          · have c4' : inB z 0 100 = false := by simpa using c4
            rw [c4']
            have hR : tightR p x y z = (⟨[], []⟩, 2) := by unfold tightR; rw [if_pos V1.out, if_neg (fun h => c4 h.2.2.2)]
            have HR := Lib.hid hR
            clear hR c4
            go_wp2
            exact bodyPost_ret (v := .tuple #[.agg #[.slice none 0 0, .slice none 0 0], .int .i64 2]) (by simp [results, Try.results11, go_sem, *]) rfl (by rw [HR.out]; exact NewP.none_ rfl ((B3.out.setCell (p := ⟨w.heap.size + 1, 0, none⟩) (by show w.heap.size ≤ w.heap.size + 1; omega) _).setCell (p := ⟨w.heap.size + 1, 1, none⟩) (by show w.heap.size ≤ w.heap.size + 1; omega) _))
      · have c2' : inB y 0 ((p.domains.length : Int) - 1) = false := by simpa using c2
        rw [c2']
        have hR : tightR p x y z = (⟨[], []⟩, 2) := by unfold tightR; rw [if_pos V1.out, if_neg (fun h => c2 h.2.1)]
        have HR := Lib.hid hR
        clear hR c2
        go_wp2
        exact bodyPost_ret (v := .tuple #[.agg #[.slice none 0 0, .slice none 0 0], .int .i64 2]) (by simp [results, Try.results11, go_sem, *]) rfl (by rw [HR.out]; exact NewP.none_ rfl ((B3.out.setCell (p := ⟨w.heap.size + 1, 0, none⟩) (by show w.heap.size ≤ w.heap.size + 1; omega) _).setCell (p := ⟨w.heap.size + 1, 1, none⟩) (by show w.heap.size ≤ w.heap.size + 1; omega) _))
    · have c1' : inB x 0 ((p.domains.length : Int) - 1) = false := by simpa using c1
      rw [c1']
      have hR : tightR p x y z = (⟨[], []⟩, 2) := by unfold tightR; rw [if_pos V1.out, if_neg (fun h => c1 h.1)]
      have HR := Lib.hid hR
      clear hR c1
      go_wp2
      exact bodyPost_ret (v := .tuple #[.agg #[.slice none 0 0, .slice none 0 0], .int .i64 2]) (by simp [results, Try.results11, go_sem, *]) rfl (by rw [HR.out]; exact NewP.none_ rfl ((B2.out.setCell (p := ⟨w.heap.size + 1, 0, none⟩) (by show w.heap.size ≤ w.heap.size + 1; omega) _).setCell (p := ⟨w.heap.size + 1, 1, none⟩) (by show w.heap.size ≤ w.heap.size + 1; omega) _))
  · have v1' : vP p = false := by simpa using v1
    have hR : tightR p x y z = (⟨[], []⟩, 1) := by unfold tightR; rw [if_neg v1]
    have HR := Lib.hid hR
    have V1 := Lib.hid v1'
    clear v1 v1' hR
    go_enter Try.func11, Try.ntmps11
    go_wp2_with fail
    refine (HV.out).mono ?_
    rintro e w1 ⟨rfl, hb1⟩
    rw [V1.out]
    obtain ⟨qb1, qf1, yb1⟩ := bcellAt hb1 (b := w.heap.size + 1) (by omega)
    have B1 := Lib.hid (B0.out.trans (hb1.mono B0.out.size))
    clear hb1
    go_wp2
    exact bodyPost_ret (v := .tuple #[.agg #[.slice none 0 0, .slice none 0 0], .int .i64 1]) (by simp [results, Try.results11, go_sem, *]) rfl (by rw [HR.out]; exact NewP.none_ rfl ((B1.out.setCell (p := ⟨w.heap.size + 1, 0, none⟩) (by show w.heap.size ≤ w.heap.size + 1; omega) _).setCell (p := ⟨w.heap.size + 1, 1, none⟩) (by show w.heap.size ≤ w.heap.size + 1; omega) _))
end Go.Proofs.Ytpnllibboeeaaaa
