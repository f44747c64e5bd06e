/- Contract: Tighten of the reference. Conditions: bounded lengths. -/
import Derived.Test.YtknjgppdmdfmoaaTight
namespace Go.Proofs.Ytknjgppdmdfmoaa
open Go.RowKit
set_option linter.unusedVariables false

set_option maxHeartbeats 4000000 in
theorem sTighten_any (p : DProblem) (d a : Value) (x y z : Int) (w : World) (hd : Rd w.heap.size w (intssT p.domains) d) (ha : Rd w.heap.size w (intssT p.apart) a) (hs : siz (intssT p.domains) ≤ 1048576) (hs2 : siz (intssT p.apart) ≤ 1048576) :
    Calls Try.prog 7 #[.agg #[d, a], .int .i64 x, .int .i64 y, .int .i64 z] w (NewP (tightR p x y z) w) := by
  have hln : p.domains.length ≤ 1048576 := by rw [siz_intss] at hs; omega
  have b0 : Below w.heap.size w ((w.alloc (.cells #[d, a] 26)).alloc (.cells #[.slice none 0 0, .slice none 0 0] 26)) := ((Below.refl _ _).alloc (Nat.le_refl _) _).alloc (by simp) _
  have y0 : w.heap.size + 2 ≤ ((w.alloc (.cells #[d, a] 26)).alloc (.cells #[.slice none 0 0, .slice none 0 0] 26)).heap.size := by first | (simp; done) | (simp; omega)
  have HV := Lib.hid (l17Ok_any p d a w.heap.size w.heap.size _ (hd.below b0) (ha.below b0) (by omega) (by omega) (by omega) (by simp [go_sem]) (by simp [go_sem]) (by omega))
  have HI : ∀ (W : World) (k : Int), Below w.heap.size w W → W.cell? ⟨w.heap.size, 0, none⟩ = some d → Calls Try.prog 28 #[.pointer (some ⟨w.heap.size, 0, none⟩), .int .i64 k] W fun e w' => e = .returned (.bool (inB k 0 ((p.domains.length : Int) - 1))) ∧ Below W.heap.size W w' :=
    fun W k hW hp => l17Item_any p d a w.heap.size w.heap.size k W (hd.below hW) (by omega) hp
  have HIh := Lib.hid HI
  have HC : ∀ (W : World) (hW : Below w.heap.size w W) (h0 : W.cell? ⟨w.heap.size, 0, none⟩ = some d) (h1 : W.cell? ⟨w.heap.size, 1, none⟩ = some a) (hz : w.heap.size < W.heap.size), _ := fun W hW h0 h1 hz => l17Own_any p d a W ((hd.below hW).mono hW.size) ((ha.below hW).mono hW.size) w.heap.size h0 h1 hz hs hs2
  have HCh := Lib.hid HC
  have HRA := Lib.hid ha
  have B0 := Lib.hid b0
  clear HI HC b0 hd ha
  by_cases v1 : vP p = true
  · have V1 := Lib.hid v1
    clear v1
    go_enter Try.func7, Try.ntmps7
    go_wp2_with fail
    refine (HV.out).mono ?_
    rintro e w1 ⟨rfl, hb1⟩
    rw [V1.out]
    obtain ⟨qa1, _, ya1⟩ := bcellAt hb1 (b := w.heap.size) (by omega)
    obtain ⟨qb1, qf1, yb1⟩ := bcellAt hb1 (b := w.heap.size + 1) (by omega)
    have x01 : w1.cell? ⟨w.heap.size, 0, none⟩ = some d := by rw [qa1]; simp [go_sem]
    have x11 : w1.cell? ⟨w.heap.size, 1, none⟩ = some a := by rw [qa1]; simp [go_sem]
    have B1 := Lib.hid (B0.out.trans (hb1.mono B0.out.size))
    clear hb1 qa1
    go_wp2_with fail
    refine (HIh.out _ _ B1.out x01).mono ?_
    rintro e w2 ⟨rfl, hb2⟩
    obtain ⟨qa2, _, ya2⟩ := bcellAt hb2 (b := w.heap.size) ya1
    obtain ⟨qb2, qf2, yb2⟩ := bcellAt hb2 (b := w.heap.size + 1) yb1
    have x02 : w2.cell? ⟨w.heap.size, 0, none⟩ = some d := by rw [qa2]; exact x01
    have x12 : w2.cell? ⟨w.heap.size, 1, none⟩ = some a := by rw [qa2]; exact x11
    have B2 := Lib.hid (B1.out.trans (hb2.mono B1.out.size))
    clear hb2 qa2
    by_cases c1 : inB x 0 ((p.domains.length : Int) - 1) = true
    · rw [c1]
      have C1 := Lib.hid c1
      clear c1
      go_wp2_with fail
      refine (HIh.out _ _ B2.out x02).mono ?_
      rintro e w3 ⟨rfl, hb3⟩
      obtain ⟨qa3, _, ya3⟩ := bcellAt hb3 (b := w.heap.size) ya2
      obtain ⟨qb3, qf3, yb3⟩ := bcellAt hb3 (b := w.heap.size + 1) yb2
      have x03 : w3.cell? ⟨w.heap.size, 0, none⟩ = some d := by rw [qa3]; exact x02
      have x13 : w3.cell? ⟨w.heap.size, 1, none⟩ = some a := by rw [qa3]; exact x12
      have B3 := Lib.hid (B2.out.trans (hb3.mono B2.out.size))
      clear hb3 qa3
      by_cases c2 : inB y 0 ((p.domains.length : Int) - 1) = true
      · rw [c2]
        have C2 := Lib.hid c2
        clear c2
        by_cases c3 : x = y
        · have c3' : (x == y) = true := by simpa using c3
          have hR : tightR p x y z = (⟨[], []⟩, 2) := by unfold tightR; rw [if_pos V1.out, if_neg (fun h => h.2.2.1 c3)]
          have HR := Lib.hid hR
          clear hR c3
          go_wp2
          exact bodyPost_ret (v := .tuple #[.agg #[.slice none 0 0, .slice none 0 0], .int .i64 2]) (by simp [results, Try.results7, go_sem, *]) rfl (by rw [HR.out]; exact NewP.none_ rfl ((B3.out.setCell (p := ⟨w.heap.size + 1, 0, none⟩) (by show w.heap.size ≤ w.heap.size + 1; omega) _).setCell (p := ⟨w.heap.size + 1, 1, none⟩) (by show w.heap.size ≤ w.heap.size + 1; omega) _))
        · have c3' : (x == y) = false := by simpa using c3
          have C3 := Lib.hid c3
          clear c3
          go_wp2_with fail
          refine (l00In_any _ _ _ _).mono ?_
          rintro e w4 ⟨rfl, rfl⟩
          by_cases c4 : inB z 0 100 = true
          · rw [c4]
            have C4 := Lib.hid c4
            clear c4
            go_wp2_with fail
            refine (HCh.out _ B3.out x03 x13 ya3).mono ?_
            rintro e w5 ⟨a1, k1, a2, k2, f1, f2, rfl, hb5, o1, o2, i1, i2, dj⟩
            have hx := inB_true.1 C1.out
            have hy := inB_true.1 C2.out
            obtain ⟨nx, ex⟩ := Int.eq_ofNat_of_zero_le hx.1
            obtain ⟨ny, ey⟩ := Int.eq_ofNat_of_zero_le hy.1
            have hvp := vP_iff.1 V1.out
            have hl := hvp.len
            have hnx : nx < p.apart.length := by omega
            have hny : ny < p.apart.length := by omega
            have hrx : (row p.apart nx).length = p.domains.length := (hvp.rows nx (by omega)).len
            have hry : (row p.apart ny).length = p.domains.length := (hvp.rows ny (by omega)).len
            have hn24 := hvp.n2
            have hxy : nx ≠ ny := fun e => C3.out (by omega)
            have hR : tightR p x y z = (⟨p.domains, set2 (set2 p.apart nx ny (max z (ap p.apart nx ny))) ny nx (max z (ap p.apart nx ny))⟩, 0) := by
              unfold tightR
              rw [if_pos V1.out, if_pos ⟨C1.out, C2.out, C3.out, C4.out⟩]
              subst ex ey
              simp only [Int.toNat_natCast]
              rw [Int.max_comm]
            have HR := Lib.hid hR
            have HXY := Lib.hid hxy
            clear hR hxy
            subst ex ey
            obtain ⟨aa, ca, rfl, _, _, hrow⟩ := HRA.out.rowAt
            obtain ⟨bb, ob, rfl, hbb, hat⟩ := hrow (by omega)
            obtain ⟨a', c', s0, _, _, _, hcol⟩ := hat nx hnx
            obtain ⟨b', off', rfl, hb', hcell⟩ := hcol ny (by omega)
            have B5 := Lib.hid (B3.out.trans (hb5.mono B3.out.size))
            have yw := B3.out.size
            have z5 := hb5.size
            have s0' : w5.cell? ⟨bb, ob + nx, none⟩ = some (.slice (some ⟨b', off', none⟩) (row p.apart nx).length c') := by rw [B5.out.cell (p := ⟨bb, _, none⟩) hbb]; exact s0
            have hcell' : w5.cell? ⟨b', off' + ny, none⟩ = some (.int .i64 (ap p.apart nx ny)) := by rw [B5.out.cell (p := ⟨b', _, none⟩) hb']; exact hcell
            obtain ⟨qa5, _, ya5⟩ := bcellAt hb5 (b := w.heap.size) ya3
            obtain ⟨qb5, qf5, yb5⟩ := bcellAt hb5 (b := w.heap.size + 1) yb3
            have hbb5 : bb < w5.heap.size := by omega
            have hb5' : b' < w5.heap.size := by omega
            generalize hmx : max z (ap p.apart nx ny) = u at *
            obtain ⟨b1, off1, n1, c1, b2, off2, c2, hv, s1, s2, f2', hf2, hf1, hne, hset⟩ := o2.set2 nx ny hnx (by omega)
            injection hv with e1 e2 e3
            subst e1 e2 e3
            have O2 := Lib.hid (hset u)
            have hrw : row (set2 p.apart nx ny u) ny = row p.apart ny := by simp [row, Go.Proofs.Ytknjgppdmdfmoaa.set2, HXY.out]
            obtain ⟨b1', off1', n1', c1', b3, off3, c3, hv, t1, t2, f3, hf3, _, hne3, hset3⟩ := O2.out.set2 ny nx (by simp [Go.Proofs.Ytknjgppdmdfmoaa.set2]; exact hny) (by rw [hrw]; omega)
            injection hv with e1 e2 e3
            injection e1 with e1
            injection e1 with e1 e4
            subst e1 e4 e2 e3
            rw [hrw] at t1
            rw [World.cell?_setCell_other _ _ _ _ (fun e => by injection e with e; exact hne e)] at t1
            have f3' : ∀ q, w5.frozen? ⟨b3, q, none⟩ = false := o2.free b3 hf3
            have O3 := Lib.hid (hset3 u)
            have hlb1 := i2 b1 hf1
            have hlb2 := i2 b2 hf2
            have hlb3 := i2 b3 hf3
            have hz1 : b1 < w5.heap.size := hlb1.2
            have hz2 : b2 < w5.heap.size := hlb2.2
            have hz3 : b3 < w5.heap.size := hlb3.2
            have hz4 : b2 ≠ w.heap.size + 1 := by omega
            have hz5 : b3 ≠ w.heap.size + 1 := by omega
            have k1' : (nx : Int) < ((p.apart.length : Nat) : Int) := by omega
            have k2' : (ny : Int) < ((p.apart.length : Nat) : Int) := by omega
            have k3 : (ny : Int) < ((row p.apart nx).length : Int) := by omega
            have k4 : (nx : Int) < ((row p.apart ny).length : Int) := by omega
            have O1 := Lib.hid o1
            have HMX := Lib.hid hmx
            have T2 := Lib.hid t2
            clear hmx hvp hl hrx hry hn24 hrow hat hcol s0 hcell o1 o2 hb5 hset hset3 f3 hrw t2 hx hy hlb1 hlb2 hlb3
            go_wp2_with fail
            refine (l00Max_any _ _ _).mono ?_
            rintro e w6 ⟨rfl, rfl⟩
            rw [HMX.out]
            have t2 := T2.out
            go_wp2
            refine bodyPost_ret (v := .tuple #[.agg #[.slice a1 p.domains.length k1, .slice (some ⟨b1, off1, none⟩) p.apart.length k2], .int .i64 0]) (by simp [results, Try.results7, go_sem, *]) rfl ?_
            rw [HR.out]
            have g1 := i1.mono (lo' := w.heap.size) (hi' := w5.heap.size) (by omega) (Nat.le_refl _)
            have g2 := i2.mono (lo' := w.heap.size) (hi' := w5.heap.size) (by omega) (Nat.le_refl _)
            have E1 : ∀ e : w.heap.size + 1 ∈ f1, False := fun e => by have := (i1 _ e).1; omega
            have E2 : ∀ e : w.heap.size + 1 ∈ f2, False := fun e => by have := (i2 _ e).1; omega
            have Q1 := ((((O1.out.setFar (p := ⟨b2, off2 + ny, none⟩) (fun e => dj b2 e hf2) (.int .i64 u)).setFar (p := ⟨b3, off3 + nx, none⟩) (fun e => dj b3 e hf3) (.int .i64 u)).setFar (p := ⟨w.heap.size + 1, 0, none⟩) E1 (.slice a1 p.domains.length k1)).setFar (p := ⟨w.heap.size + 1, 1, none⟩) E1 (.slice (some ⟨b1, off1, none⟩) p.apart.length k2))
            have Q2 := ((O3.out.setFar (p := ⟨w.heap.size + 1, 0, none⟩) E2 (.slice a1 p.domains.length k1)).setFar (p := ⟨w.heap.size + 1, 1, none⟩) E2 (.slice (some ⟨b1, off1, none⟩) p.apart.length k2))
            have hal : ∀ (W : World) (o : Obj), Below W.heap.size W (W.alloc o) := fun W o => (Below.refl _ _).alloc (Nat.le_refl _) _
            refine ⟨a1, k1, some ⟨b1, off1, none⟩, k2, f1, f2, by simp only [set2_len], ?_, ?_, ?_, ?_, ?_, dj⟩
            · exact ((((B5.out.setCell (p := ⟨b2, off2 + ny, none⟩) (g2 b2 hf2).1 _).setCell (p := ⟨b3, off3 + nx, none⟩) (g2 b3 hf3).1 _).setCell (p := ⟨w.heap.size + 1, 0, none⟩) (by show w.heap.size ≤ w.heap.size + 1; omega) _).setCell (p := ⟨w.heap.size + 1, 1, none⟩) (by show w.heap.size ≤ w.heap.size + 1; omega) _).alloc (by simp only [size_setCell]; omega) _
            · exact Q1.below g1 (by simp only [size_setCell]; omega) (hal _ _)
            · simp only [set2_len]
              exact Q2.below g2 (by simp only [size_setCell]; omega) (hal _ _)
            · exact g1.mono (Nat.le_refl _) (by simp)
            · exact g2.mono (Nat.le_refl _) (by simp)
          · have c4' : inB z 0 100 = false := by simpa using c4
            rw [c4']
            have hR : tightR p x y z = (⟨[], []⟩, 2) := by unfold tightR; rw [if_pos V1.out, if_neg (fun h => c4 h.2.2.2)]
            have HR := Lib.hid hR
            clear hR c4
            go_wp2
            exact bodyPost_ret (v := .tuple #[.agg #[.slice none 0 0, .slice none 0 0], .int .i64 2]) (by simp [results, Try.results7, go_sem, *]) rfl (by rw [HR.out]; exact NewP.none_ rfl ((B3.out.setCell (p := ⟨w.heap.size + 1, 0, none⟩) (by show w.heap.size ≤ w.heap.size + 1; omega) _).setCell (p := ⟨w.heap.size + 1, 1, none⟩) (by show w.heap.size ≤ w.heap.size + 1; omega) _))
      · have c2' : inB y 0 ((p.domains.length : Int) - 1) = false := by simpa using c2
        rw [c2']
        have hR : tightR p x y z = (⟨[], []⟩, 2) := by unfold tightR; rw [if_pos V1.out, if_neg (fun h => c2 h.2.1)]
        have HR := Lib.hid hR
        clear hR c2
        go_wp2
        exact bodyPost_ret (v := .tuple #[.agg #[.slice none 0 0, .slice none 0 0], .int .i64 2]) (by simp [results, Try.results7, go_sem, *]) rfl (by rw [HR.out]; exact NewP.none_ rfl ((B3.out.setCell (p := ⟨w.heap.size + 1, 0, none⟩) (by show w.heap.size ≤ w.heap.size + 1; omega) _).setCell (p := ⟨w.heap.size + 1, 1, none⟩) (by show w.heap.size ≤ w.heap.size + 1; omega) _))
    · have c1' : inB x 0 ((p.domains.length : Int) - 1) = false := by simpa using c1
      rw [c1']
      have hR : tightR p x y z = (⟨[], []⟩, 2) := by unfold tightR; rw [if_pos V1.out, if_neg (fun h => c1 h.1)]
      have HR := Lib.hid hR
      clear hR c1
      go_wp2
      exact bodyPost_ret (v := .tuple #[.agg #[.slice none 0 0, .slice none 0 0], .int .i64 2]) (by simp [results, Try.results7, go_sem, *]) rfl (by rw [HR.out]; exact NewP.none_ rfl ((B2.out.setCell (p := ⟨w.heap.size + 1, 0, none⟩) (by show w.heap.size ≤ w.heap.size + 1; omega) _).setCell (p := ⟨w.heap.size + 1, 1, none⟩) (by show w.heap.size ≤ w.heap.size + 1; omega) _))
  · have v1' : vP p = false := by simpa using v1
    have hR : tightR p x y z = (⟨[], []⟩, 1) := by unfold tightR; rw [if_neg v1]
    have HR := Lib.hid hR
    have V1 := Lib.hid v1'
    clear v1 v1' hR
    go_enter Try.func7, Try.ntmps7
    go_wp2_with fail
    refine (HV.out).mono ?_
    rintro e w1 ⟨rfl, hb1⟩
    rw [V1.out]
    obtain ⟨qb1, qf1, yb1⟩ := bcellAt hb1 (b := w.heap.size + 1) (by omega)
    have B1 := Lib.hid (B0.out.trans (hb1.mono B0.out.size))
    clear hb1
    go_wp2
    exact bodyPost_ret (v := .tuple #[.agg #[.slice none 0 0, .slice none 0 0], .int .i64 1]) (by simp [results, Try.results7, go_sem, *]) rfl (by rw [HR.out]; exact NewP.none_ rfl ((B1.out.setCell (p := ⟨w.heap.size + 1, 0, none⟩) (by show w.heap.size ≤ w.heap.size + 1; omega) _).setCell (p := ⟨w.heap.size + 1, 1, none⟩) (by show w.heap.size ≤ w.heap.size + 1; omega) _))
end Go.Proofs.Ytknjgppdmdfmoaa
