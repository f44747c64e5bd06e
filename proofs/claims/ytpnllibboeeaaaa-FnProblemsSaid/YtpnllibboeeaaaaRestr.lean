/- Contract: Restrict of the program. Conditions: bounded lengths. -/
import Derived.Test.YtpnllibboeeaaaaRow
import Derived.Deep.RegionWith
namespace Go.Proofs.Ytpnllibboeeaaaa
open Go.RowKit
set_option linter.unusedVariables false

def outB (cs : List Int) (x : Int) : Bool := !(cs.any fun y => x == y)
noncomputable def restR (p : DProblem) (item : Int) (cs : List Int) : DProblem × Int :=
  if vP p = true then
    if inB item 0 ((p.domains.length : Int) - 1) = true then
      if kept (outB cs) (row p.domains item.toNat) = [] then (⟨[], []⟩, 6)
      else (⟨p.domains.set item.toNat (kept (outB cs) (row p.domains item.toNat)), p.apart⟩, 0)
    else (⟨[], []⟩, 2)
  else (⟨[], []⟩, 1)
theorem restrict1_any (cs : List Int) (ch : Value) (x : Int) (bc B : Nat) (w : World) (hc : Rd B w (intsT cs) ch) (hB : B ≤ w.heap.size) (hq : w.cell? ⟨bc, 0, none⟩ = some ch) (hs3 : cs.length ≤ 1048576) :
    Calls Try.prog 28 #[.int .i64 x, .pointer (some ⟨bc, 0, none⟩)] w fun e w' => e = .returned (.bool (outB cs x)) ∧ w = w' := by
  have HC := Lib.hid (containsI_any cs x ch B w hc hB (by omega))
  unfold outB
  generalize cs.any (fun y => x == y) = r at *
  clear hc
  go_enter Try.func28, Try.ntmps28
  go_wp2_with (go_at_call 29; refine (HC.out).mono ?_; rintro e w1 ⟨rfl, rfl⟩)
  go_ret
  exact ⟨rfl, rfl⟩
set_option maxHeartbeats 4000000 in
theorem iRestrict_any (p : DProblem) (cs : List Int) (d a ch : Value) (x : Int) (w : World) (hd : Rd w.heap.size w (intssT p.domains) d) (ha : Rd w.heap.size w (intssT p.apart) a) (hc : Rd w.heap.size w (intsT cs) ch) (hs : siz (intssT p.domains) ≤ 1048576) (hs2 : siz (intssT p.apart) ≤ 1048576) (hs3 : cs.length ≤ 1048576) :
    Calls Try.prog 12 #[.agg #[d, a], .int .i64 x, ch] w (NewP (restR p x cs) w) := by
  have hln : p.domains.length ≤ 1048576 := by rw [siz_intss] at hs; omega
  have hlsum : sumLen p.domains ≤ 1048576 := by rw [siz_intss] at hs; omega
  obtain ⟨chA, chC, hcv, _, _, _⟩ := hc.ints
  subst hcv
  generalize hch : Value.slice chA cs.length chC = ch at *
  have HCH := Lib.hid hch
  clear hch
  have b0 : Below w.heap.size w (((w.alloc (.cells #[d, a] 26)).alloc (.cells #[ch] 28)).alloc (.cells #[.slice none 0 0, .slice none 0 0] 26)) := (((Below.refl _ _).alloc (Nat.le_refl _) _).alloc (by simp) _).alloc (by first | (simp; done) | (simp; omega)) _
  have y0 : w.heap.size + 3 ≤ (((w.alloc (.cells #[d, a] 26)).alloc (.cells #[ch] 28)).alloc (.cells #[.slice none 0 0, .slice none 0 0] 26)).heap.size := by first | (simp; done) | (simp; omega)
  have HV := Lib.hid (iValidProblem_any p d a w.heap.size _ (hd.below b0) (ha.below b0) (by omega) (by omega) (by omega))
  have HI : ∀ (W : World) (k : Int), Below w.heap.size w W → Calls Try.prog 23 #[.agg #[d, a], .int .i64 k] W fun e w' => e = .returned (.bool (inB k 0 ((p.domains.length : Int) - 1))) ∧ Below W.heap.size W w' :=
    fun W k hW => hasItem_any p d a w.heap.size k W (hd.below hW) (by omega)
  have HIh := Lib.hid HI
  have HC : ∀ (W : World) (hW : Below w.heap.size w W), _ := fun W hW => clone_any p d a W ((hd.below hW).mono hW.size) ((ha.below hW).mono hW.size) hs hs2
  have HCh := Lib.hid HC
  have HCS := Lib.hid hc
  have B0 := Lib.hid b0
  clear HI HC b0 hd ha hc
  by_cases v1 : vP p = true
  · have V1 := Lib.hid v1
    clear v1
    go_enter Try.func12, Try.ntmps12
    go_wp2_with fail
    refine (HV.out).mono ?_
    rintro e w1 ⟨rfl, hb1⟩
    rw [V1.out]
    obtain ⟨qa1, _, ya1⟩ := bcellAt hb1 (b := w.heap.size) (by omega)
    obtain ⟨qd1, _, yd1⟩ := bcellAt hb1 (b := w.heap.size + 1) (by omega)
    obtain ⟨qb1, qf1, yb1⟩ := bcellAt hb1 (b := w.heap.size + 1 + 1) (by omega)
    have B1 := Lib.hid (B0.out.trans (hb1.mono B0.out.size))
    clear hb1
    go_wp2_with fail
    refine (HIh.out _ _ B1.out).mono ?_
    rintro e w2 ⟨rfl, hb2⟩
    obtain ⟨qa2, _, ya2⟩ := bcellAt hb2 (b := w.heap.size) ya1
    obtain ⟨qd2, _, yd2⟩ := bcellAt hb2 (b := w.heap.size + 1) yd1
    obtain ⟨qb2, qf2, yb2⟩ := bcellAt hb2 (b := w.heap.size + 1 + 1) yb1
    have B2 := Lib.hid (B1.out.trans (hb2.mono B1.out.size))
    clear hb2
    by_cases c1 : inB x 0 ((p.domains.length : Int) - 1) = true
    · rw [c1]
      have C1 := Lib.hid c1
      clear c1
      go_wp2_with fail
      refine (HCh.out _ B2.out).mono ?_
      rintro e w3 ⟨a1, k1, a2, k2, f1, f2, rfl, hb3, o1, o2, i1, i2, dj⟩
      obtain ⟨qd3, _, yd3⟩ := bcellAt hb3 (b := w.heap.size + 1) yd2
      obtain ⟨qb3, qf3, yb3⟩ := bcellAt hb3 (b := w.heap.size + 1 + 1) yb2
      have B3 := Lib.hid (B2.out.trans (hb3.mono B2.out.size))
      have z3 := hb3.size
      have y3 := B2.out.size
      clear hb3
      have hx := inB_true.1 C1.out
      obtain ⟨n, ex⟩ := Int.eq_ofNat_of_zero_le hx.1
      have hn : n < p.domains.length := by omega
      have hR6 : kept (outB cs) (row p.domains n) = [] → restR p x cs = (⟨[], []⟩, 6) := fun h => by unfold restR; rw [if_pos V1.out, if_pos C1.out, ex, Int.toNat_natCast, if_pos h]
      have hR0 : kept (outB cs) (row p.domains n) ≠ [] → restR p x cs = (⟨p.domains.set n (kept (outB cs) (row p.domains n)), p.apart⟩, 0) := fun h => by unfold restR; rw [if_pos V1.out, if_pos C1.out, ex, Int.toNat_natCast, if_neg h]
      have HR6 := Lib.hid hR6
      have HR0 := Lib.hid hR0
      clear hR6 hR0 hx
      subst ex
      have hvp := vP_iff.1 V1.out
      have hdom := hvp.dom n hn
      have hn24 := hvp.n2
      have hpos : 0 < (row p.domains n).length ∧ (row p.domains n).length ≤ 32 := by
        unfold domB at hdom
        simp only [Bool.and_eq_true, decide_eq_true_iff] at hdom
        omega
      clear hdom hvp
      obtain ⟨b1, off1, nn, k1', x1, g, hv1, hbf, hbg, hcx, hfz1, ox, hgf, hnew⟩ := o1.rowNew n hn
      injection hv1 with ha1 hnn hk1
      subst ha1 hnn hk1
      obtain ⟨b', off', c', hx1, hcl, hcm, hbg', hRow, hfz'⟩ := ox.rowF hpos.1
      subst hx1
      have hlb1 := i1 b1 hbf
      have hlb' := i1 b' (hgf _ hbg')
      have hne : b' ≠ b1 := fun e => hbg (e ▸ hbg')
      have b4 : Below w3.heap.size w3 (w3.alloc (.cells #[.slice (some ⟨b1, off1, none⟩) p.domains.length k1, .slice a2 p.apart.length k2] 26)).drew := ((Below.refl _ _).alloc (Nat.le_refl _) _).drew
      have b4' := b4
      generalize hW4 : (w3.alloc (.cells #[.slice (some ⟨b1, off1, none⟩) p.domains.length k1, .slice a2 p.apart.length k2] 26)).drew = W4 at b4'
      have hW4s : W4.heap.size = w3.heap.size + 1 := by rw [← hW4]; simp
      have hqc : W4.cell? ⟨w.heap.size + 1, 0, none⟩ = some ch := by rw [b4'.cell (p := ⟨_, _, none⟩) yd3]; simp [go_sem, qd3, qd2, qd1]
      have hrd := (ox.below (fun y hy => i1 y (hgf y hy)) (Nat.le_refl _) b4').rd (hi := w3.heap.size) (lo := w2.heap.size) (fun y hy => i1 y (hgf y hy))
      have hDel := deleteFuncI_any (row p.domains n) (outB cs) 28 [.pointer (some ⟨w.heap.size + 1, 0, none⟩)] b' off' c' W4 (fun q hq => by rw [b4'.cell (p := ⟨b', _, none⟩) hlb'.2]; exact hRow q hq) hcl hcm (by omega) (fun q => by rw [World.frozen?_of_block (w := w3) (b4'.block b' hlb'.2)]; exact hfz' q) (by omega) (hrd.mono (by omega)) (fun _ _ => by kernel_rfl)
        (fun y hy W hW => (restrict1_any cs ch y (w.heap.size + 1) w.heap.size W (HCS.out.below (B3.out.trans ((b4'.mono (B' := w.heap.size) (by omega)).trans (hW.below (by omega) (fun q hq => (show q = b' by simpa using hq) ▸ (by omega : w.heap.size ≤ b')))))) (by have := hW.size; omega) (by
          rw [World.cell?_of_block (w := W4) (hW.block (w.heap.size + 1) (by omega) (by simp; omega))]; exact hqc) hs3).mono (by rintro e w' ⟨rfl, rfl⟩; exact ⟨rfl, Below.refl _ _⟩))
      have HDel := Lib.hid hDel
      rw [← hW4] at HDel
      have HW4 := Lib.hid hW4
      clear hDel hrd hqc hW4
      go_wp2
      go_region_with (go_at_call 27; refine (HDel.out).mono ?_; rintro e w4 ⟨fq, rfl, hc4, o4, hfq⟩; have z4 := hc4.size; simp at z4; have qo : ∀ q, w4.cell? ⟨w3.heap.size, q, none⟩ = _ := fun q => World.cell?_of_block (a := ⟨w3.heap.size, q, none⟩) (hc4.block w3.heap.size (by simp) (by simp; omega)); have q1 : ∀ q, w4.cell? ⟨b1, q, none⟩ = _ := fun q => World.cell?_of_block (a := ⟨b1, q, none⟩) (hc4.block b1 (by simp; omega) (by simp; omega)); have g1 : ∀ q, w4.frozen? ⟨b1, q, none⟩ = _ := fun q => World.frozen?_of_block (a := ⟨b1, q, none⟩) (hc4.block b1 (by simp; omega) (by simp; omega)))
      all_goals
        have qe : ∀ q, w4.cell? ⟨w.heap.size + 1 + 1, q, none⟩ = _ := fun q => World.cell?_of_block (a := ⟨w.heap.size + 1 + 1, q, none⟩) (hc4.block (w.heap.size + 1 + 1) (by simp; omega) (by simp; omega))
        have qg : ∀ q, w4.frozen? ⟨w.heap.size + 1 + 1, q, none⟩ = _ := fun q => World.frozen?_of_block (a := ⟨w.heap.size + 1 + 1, q, none⟩) (hc4.block (w.heap.size + 1 + 1) (by simp; omega) (by simp; omega))
        obtain ⟨fz, oz, hz⟩ := hnew w4 (kept (outB cs) (row p.domains n)) _ fq (fun y hy hyg => (hc4.block y (by simp; have := (i1 y hy).2; omega) (by simp; rintro rfl; exact hyg hbg')).trans (b4.block y (i1 y hy).2)) o4 (fun y hy => Or.inl (hfq y hy ▸ hbg'))
        have O1 := Lib.hid oz
        have j1 : In w2.heap.size w3.heap.size fz := fun y hy => by
          rcases hz y hy with h | h
          · exact i1 y h
          · rw [hfq y h]; exact hlb'
        have dz : ∀ y ∈ fz, y ∉ f2 := fun y hy => by
          rcases hz y hy with h | h
          · exact dj y h
          · rw [hfq y h]; exact dj b' (hgf _ hbg')
        have O2 := Lib.hid (((o2.below i2 (Nat.le_refl _) b4).chg (i2.mono (Nat.le_refl _) (Nat.le_succ _)) (by simp) hc4 (fun y hy e => by obtain rfl : y = b' := (by simpa using e); exact dj y (hgf _ hbg') hy)).setFar (p := ⟨b1, off1 + n, none⟩) (fun e => dj b1 hbf e) (.slice (some ⟨b', off', none⟩) (kept (outB cs) (row p.domains n)).length c'))
        have B5 := Lib.hid (((B3.out.trans (b4.mono (B' := w.heap.size) (by omega))).trans (hc4.below (B := w.heap.size) (by simp; omega) (fun q hq => (show q = b' by simpa using hq) ▸ (by omega : w.heap.size ≤ b')))).setCell (p := ⟨b1, off1 + n, none⟩) (by show w.heap.size ≤ b1; omega) (.slice (some ⟨b', off', none⟩) (kept (outB cs) (row p.domains n)).length c'))
        have s5 : (w4.setCell ⟨b1, off1 + n, none⟩ (.slice (some ⟨b', off', none⟩) (kept (outB cs) (row p.domains n)).length c')).heap.size = w4.heap.size := size_setCell _ _ _
        clear hnew oz hz o4 hc4 b4 HDel ox hRow
        by_cases hk : kept (outB cs) (row p.domains n) = []
        · have hR := HR6.out hk
          have HR := Lib.hid hR
          have hk0 : (kept (outB cs) (row p.domains n)).length = 0 := by rw [hk]; rfl
          rw [hk0] at B5 s5 ⊢
          clear hR hk hk0 O1 O2
          go_wp2
          exact bodyPost_ret (v := .tuple #[.agg #[.slice none 0 0, .slice none 0 0], .int .i64 6]) (by simp [results, Try.results12, go_sem, *]) rfl (by rw [HR.out]; exact NewP.none_ rfl ((B5.out.setCell (p := ⟨w.heap.size + 1 + 1, 0, none⟩) (by show w.heap.size ≤ w.heap.size + 1 + 1; omega) _).setCell (p := ⟨w.heap.size + 1 + 1, 1, none⟩) (by show w.heap.size ≤ w.heap.size + 1 + 1; omega) _))
        · have hR := HR0.out hk
          have HR := Lib.hid hR
          have hk1 : 0 < (kept (outB cs) (row p.domains n)).length := List.length_pos_iff.2 hk
          have hk2 := kept_len (outB cs) (row p.domains n)
          clear hR hk
          generalize hkk : kept (outB cs) (row p.domains n) = kk at *
          clear hkk
          go_wp2
          refine bodyPost_ret (v := .tuple #[.agg #[.slice (some ⟨b1, off1, none⟩) p.domains.length k1, .slice a2 p.apart.length k2], .int .i64 0]) (by simp [results, Try.results12, go_sem, *]) rfl ?_
          rw [HR.out]
          refine ⟨some ⟨b1, off1, none⟩, k1, a2, k2, fz, f2, by simp only [List.length_set], (B5.out.setCell (p := ⟨w.heap.size + 1 + 1, 0, none⟩) (by show w.heap.size ≤ w.heap.size + 1 + 1; omega) _).setCell (p := ⟨w.heap.size + 1 + 1, 1, none⟩) (by show w.heap.size ≤ w.heap.size + 1 + 1; omega) _, ?_, ?_, ?_, ?_, dz⟩
          · simp only [List.length_set]
            exact (O1.out.setFar (p := ⟨w.heap.size + 1 + 1, 0, none⟩) (fun e => by have := (j1 _ e).1; simp only at this; omega) _).setFar (p := ⟨w.heap.size + 1 + 1, 1, none⟩) (fun e => by have := (j1 _ e).1; simp only at this; omega) _
          · exact (O2.out.setFar (p := ⟨w.heap.size + 1 + 1, 0, none⟩) (fun e => by have := (i2 _ e).1; simp only at this; omega) _).setFar (p := ⟨w.heap.size + 1 + 1, 1, none⟩) (fun e => by have := (i2 _ e).1; simp only at this; omega) _
          · simp only [size_setCell]; exact j1.mono (by omega) (by omega)
          · simp only [size_setCell]; exact i2.mono (by omega) (by omega)
    · have c1' : inB x 0 ((p.domains.length : Int) - 1) = false := by simpa using c1
      rw [c1']
      have hR : restR p x cs = (⟨[], []⟩, 2) := by unfold restR; rw [if_pos V1.out, if_neg c1]
      have HR := Lib.hid hR
      clear hR c1
      go_wp2
      exact bodyPost_ret (v := .tuple #[.agg #[.slice none 0 0, .slice none 0 0], .int .i64 2]) (by simp [results, Try.results12, go_sem, *]) rfl (by rw [HR.out]; exact NewP.none_ rfl ((B2.out.setCell (p := ⟨w.heap.size + 1 + 1, 0, none⟩) (by show w.heap.size ≤ w.heap.size + 1 + 1; omega) _).setCell (p := ⟨w.heap.size + 1 + 1, 1, none⟩) (by show w.heap.size ≤ w.heap.size + 1 + 1; omega) _))
  · have v1' : vP p = false := by simpa using v1
    have hR : restR p x cs = (⟨[], []⟩, 1) := by unfold restR; rw [if_neg v1]
    have HR := Lib.hid hR
    have V1 := Lib.hid v1'
    clear v1 v1' hR
    go_enter Try.func12, Try.ntmps12
    go_wp2_with fail
    refine (HV.out).mono ?_
    rintro e w1 ⟨rfl, hb1⟩
    rw [V1.out]
    obtain ⟨qb1, qf1, yb1⟩ := bcellAt hb1 (b := w.heap.size + 1 + 1) (by omega)
    have B1 := Lib.hid (B0.out.trans (hb1.mono B0.out.size))
    clear hb1
    go_wp2
    exact bodyPost_ret (v := .tuple #[.agg #[.slice none 0 0, .slice none 0 0], .int .i64 1]) (by simp [results, Try.results12, go_sem, *]) rfl (by rw [HR.out]; exact NewP.none_ rfl ((B1.out.setCell (p := ⟨w.heap.size + 1 + 1, 0, none⟩) (by show w.heap.size ≤ w.heap.size + 1 + 1; omega) _).setCell (p := ⟨w.heap.size + 1 + 1, 1, none⟩) (by show w.heap.size ≤ w.heap.size + 1 + 1; omega) _))
end Go.Proofs.Ytpnllibboeeaaaa
