/- Contract: Restrict of the reference. Conditions: bounded lengths. -/
import Derived.Test.YtknjgppdmdfmoaaRestr
import Derived.Test.YtknjgppdmdfmoaaApp2
namespace Go.Proofs.Ytknjgppdmdfmoaa
open Go.RowKit
set_option linter.unusedVariables false

theorem l00Has_any (l : List Int) (x : Int) (v : Value) (B : Nat) (w : World) (h : Rd B w (intsT l) v) (hB : B ≤ w.heap.size) (hn : l.length ≤ 1099511627776) :
    Calls Try.prog 51 #[v, .int .i64 x] w fun e w' => e = .returned (.bool (l.any (fun y => x == y))) ∧ w = w' := by
  obtain ⟨a, c, rfl, hnc, hcm, hcells⟩ := h.ints
  clear h
  have hnb : (l.length : Int) ≤ 1099511627776 := by omega
  go_enter Try.func51, Try.ntmps51
  go_wp2
  go_loop [5] (fun i => ∃ (k : Nat), k ≤ l.length ∧ i = .int .i64 k ∧ (l.take k).any (fun y => x == y) = false) (fun i => l.length - (intOf i).toNat)
  case atStart => exact ⟨0, Nat.zero_le _, rfl, by simp⟩
  case round =>
    obtain ⟨k, hk, rfl, hno⟩ := hrel
    have HN := Lib.hid hno
    clear hno
    by_cases hlt : k < l.length
    · obtain ⟨b, off, rfl, hbl, hat⟩ := hcells (by omega)
      have s0 := hat k hlt
      clear hcells hat
      by_cases hp : x = l[k]
      · have hp' : (l[k] == x) = true := by simp [hp]
        have HP := Lib.hid hp
        clear hp
        go_wp2
        go_ret
        refine ⟨?_, rfl⟩
        have : l.any (fun y => x == y) = true := List.any_eq_true.2 ⟨l[k], List.getElem_mem hlt, by simp [← HP.out]⟩
        rw [this]; rfl
      · have hp' : (l[k] == x) = false := by simp; exact fun e => hp e.symm
        have HP := Lib.hid hp
        clear hp
        go_wp2
        go_round
        case rel => exact ⟨k + 1, by omega, by go_num, by rw [any_take_succ _ l k hlt, HN.out]; simp [HP.out]⟩
        case measure => simp [intOf]; omega
    · obtain rfl : k = l.length := by omega
      clear hcells
      go_wp2
      go_ret
      have := HN.out
      rw [List.take_length] at this
      exact ⟨by rw [this]; rfl, rfl⟩
theorem nonneg_of {n : Nat} : (0 : Int) ≤ (n : Int) := Int.natCast_nonneg n
set_option maxHeartbeats 8000000 in
theorem sRestrict_any (p : DProblem) (cs : List Int) (d a ch : Value) (x : Int) (w : World) (hd : Rd w.heap.size w (intssT p.domains) d) (ha : Rd w.heap.size w (intssT p.apart) a) (hc : Rd w.heap.size w (intsT cs) ch) (hs : siz (intssT p.domains) ≤ 1048576) (hs2 : siz (intssT p.apart) ≤ 1048576) (hs3 : cs.length ≤ 1048576) :
    Calls Try.prog 22 #[.agg #[d, a], .int .i64 x, ch] w (NewP (restR p x cs) w) := by
  have hln : p.domains.length ≤ 1048576 := by rw [siz_intss] at hs; omega
  have hlsum : sumLen p.domains ≤ 1048576 := by rw [siz_intss] at hs; omega
  have b0 : Below w.heap.size w ((w.alloc (.cells #[d, a] 26)).alloc (.cells #[.slice none 0 0, .slice none 0 0] 26)) := ((Below.refl _ _).alloc (Nat.le_refl _) _).alloc (by simp) _
  have y0 : w.heap.size + 2 ≤ ((w.alloc (.cells #[d, a] 26)).alloc (.cells #[.slice none 0 0, .slice none 0 0] 26)).heap.size := by first | (simp; done) | (simp; omega)
  have HV := Lib.hid (l17Ok_any p d a w.heap.size w.heap.size _ (hd.below b0) (ha.below b0) (by omega) (by omega) (by omega) (by simp [go_sem]) (by simp [go_sem]) (by omega))
  have HI : ∀ (W : World) (k : Int), Below w.heap.size w W → W.cell? ⟨w.heap.size, 0, none⟩ = some d → Calls Try.prog 28 #[.pointer (some ⟨w.heap.size, 0, none⟩), .int .i64 k] W fun e w' => e = .returned (.bool (inB k 0 ((p.domains.length : Int) - 1))) ∧ Below W.heap.size W w' :=
    fun W k hW hp => l17Item_any p d a w.heap.size w.heap.size k W (hd.below hW) (by omega) hp
  have HIh := Lib.hid HI
  have HC : ∀ (W : World) (hW : Below w.heap.size w W) (h0 : W.cell? ⟨w.heap.size, 0, none⟩ = some d) (h1 : W.cell? ⟨w.heap.size, 1, none⟩ = some a) (hz : w.heap.size < W.heap.size), _ := fun W hW h0 h1 hz => l17Own_any p d a W ((hd.below hW).mono hW.size) ((ha.below hW).mono hW.size) w.heap.size h0 h1 hz hs hs2
  have HCh := Lib.hid HC
  have HRD := Lib.hid hd
  have HCS := Lib.hid hc
  have B0 := Lib.hid b0
  clear HI HC b0 hd ha hc
  by_cases v1 : vP p = true
  · have V1 := Lib.hid v1
    clear v1
    go_enter Try.func22, Try.ntmps22
    go_wp2_with fail
    refine (HV.out).mono ?_
    rintro e w1 ⟨rfl, hb1⟩
    rw [V1.out]
    obtain ⟨qa1, _, ya1⟩ := bcellAt hb1 (b := w.heap.size) (by omega)
    obtain ⟨qb1, qf1, yb1⟩ := bcellAt hb1 (b := w.heap.size + 1) (by omega)
    have x01 : w1.cell? ⟨w.heap.size, 0, none⟩ = some d := by rw [qa1]; simp [go_sem]
    have x11 : w1.cell? ⟨w.heap.size, 1, none⟩ = some a := by rw [qa1]; simp [go_sem]
    have B1 := Lib.hid (B0.out.trans (hb1.mono B0.out.size))
    clear hb1 qa1
    go_wp2_with fail
    refine (HIh.out _ _ B1.out x01).mono ?_
    rintro e w2 ⟨rfl, hb2⟩
    obtain ⟨qa2, _, ya2⟩ := bcellAt hb2 (b := w.heap.size) ya1
    obtain ⟨qb2, qf2, yb2⟩ := bcellAt hb2 (b := w.heap.size + 1) yb1
    have x02 : w2.cell? ⟨w.heap.size, 0, none⟩ = some d := by rw [qa2]; exact x01
    have x12 : w2.cell? ⟨w.heap.size, 1, none⟩ = some a := by rw [qa2]; exact x11
    have B2 := Lib.hid (B1.out.trans (hb2.mono B1.out.size))
    clear hb2 qa2
    by_cases c1 : inB x 0 ((p.domains.length : Int) - 1) = true
    · rw [c1]
      have C1 := Lib.hid c1
      clear c1
      go_wp2_with fail
      refine (HCh.out _ B2.out x02 x12 ya2).mono ?_
      rintro e w3 ⟨a1, k1, a2, k2, f1, f2, rfl, hb3, o1, o2, i1, i2, dj⟩
      obtain ⟨qa3, _, ya3⟩ := bcellAt hb3 (b := w.heap.size) ya2
      obtain ⟨qb3, qf3, yb3⟩ := bcellAt hb3 (b := w.heap.size + 1) yb2
      have x03 : w3.cell? ⟨w.heap.size, 0, none⟩ = some d := by rw [qa3]; exact x02
      have xe3 : w3.cell? ⟨w.heap.size + 1, 0, none⟩ = some (.slice none 0 0) ∧ w3.cell? ⟨w.heap.size + 1, 1, none⟩ = some (.slice none 0 0) ∧ (∀ q, w3.frozen? ⟨w.heap.size + 1, q, none⟩ = false) := ⟨by rw [qb3, qb2, qb1]; simp [go_sem], by rw [qb3, qb2, qb1]; simp [go_sem], fun q => by rw [qf3, qf2, qf1]; simp [go_sem]⟩
      have B3 := Lib.hid (B2.out.trans (hb3.mono B2.out.size))
      have z3 := hb3.size
      have y3 := B2.out.size
      clear hb3 qa3 qb3 qb2 qb1 qf3 qf2 qf1 yb1 ya1 ya2 x01 x02 x11 x12
      have hx := inB_true.1 C1.out
      obtain ⟨n, ex⟩ := Int.eq_ofNat_of_zero_le hx.1
      have hn : n < p.domains.length := by omega
      have hR6 : kept (outB cs) (row p.domains n) = [] → restR p x cs = (⟨[], []⟩, 6) := fun h => by unfold restR; rw [if_pos V1.out, if_pos C1.out, ex, Int.toNat_natCast, if_pos h]
      have hR0 : kept (outB cs) (row p.domains n) ≠ [] → restR p x cs = (⟨p.domains.set n (kept (outB cs) (row p.domains n)), p.apart⟩, 0) := fun h => by unfold restR; rw [if_pos V1.out, if_pos C1.out, ex, Int.toNat_natCast, if_neg h]
      have HR6 := Lib.hid hR6
      have HR0 := Lib.hid hR0
      clear hR6 hR0 hx
      subst ex
      have hvp := vP_iff.1 V1.out
      have hdom := hvp.dom n hn
      have hpos : (row p.domains n).length ≤ 32 := by
        unfold domB at hdom
        simp only [Bool.and_eq_true, decide_eq_true_iff] at hdom
        omega
      clear hdom hvp
      obtain ⟨aa, ca, rfl, _, _, hrow⟩ := HRD.out.rowAt
      obtain ⟨bb, ob, rfl, hbb, hat⟩ := hrow (by omega)
      obtain ⟨a', c', s0, _, _, _, hcol⟩ := hat n hn
      have hbb3 : bb < w3.heap.size := by omega
      have s3 : w3.cell? ⟨bb, ob + n, none⟩ = some (.slice a' (row p.domains n).length c') := by rw [B3.out.cell (p := ⟨bb, _, none⟩) hbb]; exact s0
      have k1' : (n : Int) < ((p.domains.length : Nat) : Int) := by omega
      clear hrow hat s0
      have HCOL := Lib.hid hcol
      have HO1 := Lib.hid o1
      have HO2 := Lib.hid o2
      clear hcol o1 o2
      obtain ⟨i0, hi0, hz0, hz1, hz2⟩ := info_parts infoI
      have b4 : Below w3.heap.size w3 (w3.alloc (.cells #[.slice a1 p.domains.length k1, .slice a2 p.apart.length k2] 26)) := (Below.refl _ _).alloc (Nat.le_refl _) _
      have B4 := Lib.hid b4
      clear b4
      go_wp2
      go_loopw [9, 10] (fun out i wr => ∃ (k : Nat), k ≤ (row p.domains n).length ∧ i = .int .i64 k ∧ Below (w3.heap.size + 1) (w3.alloc (.cells #[.slice a1 p.domains.length k1, .slice a2 p.apart.length k2] 26)) wr ∧ Grow wr (w3.heap.size + 1) 2 1 out (kept (outB cs) ((row p.domains n).take k)).length ((kept (outB cs) ((row p.domains n).take k)).map intT) []) (fun _ i wr => (row p.domains n).length - (intOf i).toNat)
      case atStart =>
        refine ⟨0, Nat.zero_le _, rfl, (Below.refl _ _).alloc (by simp) _, ?_⟩
        have := grow_empty (w3.alloc (.cells #[.slice a1 p.domains.length k1, .slice a2 p.apart.length k2] 26)) 2
        simpa [kept] using this
      case round =>
        obtain ⟨k, hk, rfl, hb, hgr⟩ := hrel
        have zr := hb.size
        simp at zr
        have u0 : wr.cell? ⟨w.heap.size, 0, none⟩ = some (.slice (some ⟨bb, ob, none⟩) p.domains.length ca) := by rw [bat hb (w.heap.size) _ (by omega), bat B4.out w.heap.size _ ya3]; exact x03
        have u1 : wr.cell? ⟨bb, ob + n, none⟩ = some (.slice a' (row p.domains n).length c') := by rw [bat hb (bb) _ (by omega), bat B4.out bb _ hbb3]; exact s3
        have yr : w.heap.size < wr.heap.size := by omega
        have ybb : bb < wr.heap.size := by omega
        have HB := Lib.hid hb
        have HG := Lib.hid hgr
        clear hb hgr
        by_cases hlt : k < (row p.domains n).length
        · obtain ⟨b', off', rfl, hb', hcell⟩ := HCOL.out k hlt
          have u2 : wr.cell? ⟨b', off' + k, none⟩ = some (.int .i64 (gi (row p.domains n) k)) := by
            rw [bat HB.out (b') _ (by omega), bat B4.out b' _ (by omega), B3.out.cell (p := ⟨b', _, none⟩) hb']; exact hcell
          have yb' : b' < wr.heap.size := by omega
          have hsucc := kept_take_succ (outB cs) (row p.domains n) k hlt
          rw [gi_eq hlt] at hsucc
          have HSU := Lib.hid hsucc
          have hkl := kept_len (outB cs) ((row p.domains n).take k)
          rw [List.length_take] at hkl
          have HH := Lib.hid (l00Has_any cs (gi (row p.domains n) k) ch w.heap.size wr (HCS.out.below (B3.out.trans ((B4.out.mono (B' := w.heap.size) (by omega)).trans (HB.out.mono (by omega))))) (by omega) (by omega))
          clear hcell hsucc
          have k2' : (k : Int) < ((row p.domains n).length : Int) := by omega
          by_cases hin : cs.any (fun y => gi (row p.domains n) k == y) = true
          · have hout : outB cs (gi (row p.domains n) k) = false := by unfold outB; rw [hin]; rfl
            have HOUT := Lib.hid hout
            rw [hin] at HH
            clear hout hin
            go_wp2_with (first | (go_at_call 51; refine (HH.out).mono ?_; rintro e w5 ⟨rfl, rfl⟩) | (at_builtin; refine wpList_append1 rfl (.tmp 40) (.tmp 49) _ rfl (w3.heap.size + 1) 2 i0 _ 1 8 Try.underlying36 hi0 hz0 hz1 hz2 rfl (by omega) _ _ _ [] rfl HG.out [.int .i64 (gi (row p.domains n) k)] [intT (gi (row p.domains n) k)] [] rfl 1 rfl (fun u hu => by simp at hu; subst hu; rfl) (RepV.lits [.int .i64 (gi (row p.domains n) k)]) List.nodup_nil (fun b h => by simp at h) 0 In.nil In.nil (by simp) (by simp) (by unfold maxLen; omega) (by omega) (by omega) ?_; intro v2 w2' hgn))
            have HGN := Lib.hid hgn
            clear hgn
            go_wp2
            go_roundw
            case rel =>
              refine ⟨k + 1, by omega, by go_num, HB.out.trans HGN.out.below, ?_⟩
              rw [HSU.out, HOUT.out, if_neg (by simp), List.length_append, List.map_append]
              exact HGN.out.grow
            case measure => simp [intOf]; omega
          · have hin' : cs.any (fun y => gi (row p.domains n) k == y) = false := Bool.eq_false_iff.2 hin
            have hout : outB cs (gi (row p.domains n) k) = true := by unfold outB; rw [hin']; rfl
            have HOUT := Lib.hid hout
            rw [hin'] at HH
            clear hout hin hin'
            go_wp2_with (go_at_call 51; refine (HH.out).mono ?_; rintro e w5 ⟨rfl, rfl⟩)
            go_roundw
            case rel =>
              refine ⟨k + 1, by omega, by go_num, HB.out, ?_⟩
              rw [HSU.out, HOUT.out, if_pos rfl, List.append_nil]
              exact HG.out
            case measure => simp [intOf]; omega
        · obtain rfl : k = (row p.domains n).length := by omega
          rw [List.take_length] at HG
          have xe : wr.cell? ⟨w.heap.size + 1, 0, none⟩ = some (.slice none 0 0) ∧ wr.cell? ⟨w.heap.size + 1, 1, none⟩ = some (.slice none 0 0) ∧ (∀ q, wr.frozen? ⟨w.heap.size + 1, q, none⟩ = false) := by
            refine ⟨?_, ?_, fun q => ?_⟩
            · rw [bat HB.out (w.heap.size + 1) _ (by omega), bat B4.out (w.heap.size + 1) _ yb3]; exact xe3.1
            · rw [bat HB.out (w.heap.size + 1) _ (by omega), bat B4.out (w.heap.size + 1) _ yb3]; exact xe3.2.1
            · rw [baf HB.out (w.heap.size + 1) _ (by omega), baf B4.out (w.heap.size + 1) _ yb3]; exact xe3.2.2 q
          obtain ⟨xe1, xe2, xef⟩ := xe
          clear xe3
          have B5 := Lib.hid (B3.out.trans ((B4.out.mono (B' := w.heap.size) (by omega)).trans (HB.out.mono (by omega))))
          have ye : w.heap.size + 1 < wr.heap.size := by omega
          by_cases hk0 : kept (outB cs) (row p.domains n) = []
          · have HR := Lib.hid (HR6.out hk0)
            obtain ⟨av, cv, fv, rfl, ov, iv⟩ := HG.out.toOwn (lo := 0) (by omega) In.nil (by omega)
            have hk00 : (kept (outB cs) (row p.domains n)).length = 0 := by rw [hk0]; rfl
            rw [hk00]
            clear hk0 hk00 ov
            go_wp2
            exact bodyPost_ret (v := .tuple #[.agg #[.slice none 0 0, .slice none 0 0], .int .i64 6]) (by simp [results, Try.results22, go_sem, *]) rfl (by rw [HR.out]; exact NewP.none_ rfl ((B5.out.setCell (p := ⟨w.heap.size + 1, 0, none⟩) (by show w.heap.size ≤ w.heap.size + 1; omega) _).setCell (p := ⟨w.heap.size + 1, 1, none⟩) (by show w.heap.size ≤ w.heap.size + 1; omega) _))
          · have HR := Lib.hid (HR0.out hk0)
            have hk1 : 0 < (kept (outB cs) (row p.domains n)).length := List.length_pos_iff.2 hk0
            have hk2 := kept_len (outB cs) (row p.domains n)
            obtain ⟨av, cv, fv, rfl, ov, iv⟩ := HG.out.toOwn (lo := w3.heap.size + 1) (by omega) In.nil (by omega)
            clear hk0
            generalize kept (outB cs) (row p.domains n) = kk at *
            obtain ⟨b1, off1, nn, k1', x1, g, hv1, hbf, hbg, hcx, hfz1, ox, hgf, hnew⟩ := HO1.out.rowNew n hn
            injection hv1 with ha1 hnn hk1
            subst ha1 hnn hk1
            have hlb1 := i1 b1 hbf
            have kp : ∀ y, y < w3.heap.size → wr.heap[y]? = w3.heap[y]? := fun y hy => (HB.out.block y (by omega)).trans (B4.out.block y hy)
            obtain ⟨fz, oz, hz⟩ := hnew wr kk _ fv (fun y hy _ => kp y (i1 y hy).2) ov (fun y hy => Or.inr (fun e => by have := (iv y hy).1; have := (i1 y e).2; omega))
            have q8 : wr.cell? ⟨w3.heap.size, 0, none⟩ = some (.slice (some ⟨b1, off1, none⟩) p.domains.length k1) ∧ wr.cell? ⟨w3.heap.size, 1, none⟩ = some (.slice a2 p.apart.length k2) := by
              constructor
              · rw [bat HB.out (w3.heap.size) _ (by omega)]; simp [go_sem]
              · rw [bat HB.out (w3.heap.size) _ (by omega)]; simp [go_sem]
            obtain ⟨q80, q81⟩ := q8
            have q1 : wr.cell? ⟨b1, off1 + n, none⟩ = some x1 := by rw [World.cell?_of_block (w := w3) (a := ⟨b1, off1 + n, none⟩) (kp b1 hlb1.2)]; exact hcx
            have q1f : ∀ q, wr.frozen? ⟨b1, q, none⟩ = false := fun q => by rw [World.frozen?_of_block (w := w3) (a := ⟨b1, q, none⟩) (kp b1 hlb1.2)]; exact hfz1 q
            have hlb1' : b1 < wr.heap.size := by omega
            have hne1 : b1 ≠ w3.heap.size := by omega
            have hne2 : b1 ≠ w.heap.size + 1 := by omega
            have ne3 : w.heap.size + 1 ≠ w3.heap.size := by omega
            have y8 : w3.heap.size < wr.heap.size := by omega
            have O1 := Lib.hid oz
            have HZ := Lib.hid hz
            have O2 := Lib.hid ((HO2.out.frame (fun y hy => kp y (i2 y hy).2)).setFar (p := ⟨b1, off1 + n, none⟩) (fun e => dj b1 hbf e) (.slice av kk.length cv))
            have dz : Hid (∀ y ∈ fz, y ∉ f2) := fun y hy e => by
              rcases HZ.out y hy with h | h
              · exact dj y h e
              · have := (iv y h).1; have := (i2 y e).2; omega
            have j1 : In w2.heap.size wr.heap.size fz := fun y hy => by
              rcases HZ.out y hy with h | h
              · have := i1 y h; omega
              · have := iv y h; omega
            clear hnew oz hz ov ox hcx hfz1 HCOL s3 kp
            go_wp2
            refine bodyPost_ret (v := .tuple #[.agg #[.slice (some ⟨b1, off1, none⟩) p.domains.length k1, .slice a2 p.apart.length k2], .int .i64 0]) (by simp [results, Try.results22, go_sem, *]) rfl ?_
            rw [HR.out]
            have E1 : ∀ e : w.heap.size + 1 ∈ fz, False := fun e => by have := (j1 _ e).1; omega
            have E2 : ∀ e : w.heap.size + 1 ∈ f2, False := fun e => by have := (i2 _ e).1; omega
            refine ⟨some ⟨b1, off1, none⟩, k1, a2, k2, fz, f2, by simp only [List.length_set], ((B5.out.setCell (p := ⟨b1, off1 + n, none⟩) (by show w.heap.size ≤ b1; omega) _).setCell (p := ⟨w.heap.size + 1, 0, none⟩) (by show w.heap.size ≤ w.heap.size + 1; omega) _).setCell (p := ⟨w.heap.size + 1, 1, none⟩) (by show w.heap.size ≤ w.heap.size + 1; omega) _, ?_, ?_, ?_, ?_, dz.out⟩
            · simp only [List.length_set]
              exact (O1.out.setFar (p := ⟨w.heap.size + 1, 0, none⟩) E1 _).setFar (p := ⟨w.heap.size + 1, 1, none⟩) E1 _
            · exact (O2.out.setFar (p := ⟨w.heap.size + 1, 0, none⟩) E2 _).setFar (p := ⟨w.heap.size + 1, 1, none⟩) E2 _
            · simp only [size_setCell]; exact j1.mono (by omega) (by omega)
            · simp only [size_setCell]; exact i2.mono (by omega) (by omega)
    · have c1' : inB x 0 ((p.domains.length : Int) - 1) = false := by simpa using c1
      rw [c1']
      have hR : restR p x cs = (⟨[], []⟩, 2) := by unfold restR; rw [if_pos V1.out, if_neg c1]
      have HR := Lib.hid hR
      clear hR c1
      go_wp2
      exact bodyPost_ret (v := .tuple #[.agg #[.slice none 0 0, .slice none 0 0], .int .i64 2]) (by simp [results, Try.results22, go_sem, *]) rfl (by rw [HR.out]; exact NewP.none_ rfl ((B2.out.setCell (p := ⟨w.heap.size + 1, 0, none⟩) (by show w.heap.size ≤ w.heap.size + 1; omega) _).setCell (p := ⟨w.heap.size + 1, 1, none⟩) (by show w.heap.size ≤ w.heap.size + 1; omega) _))
  · have v1' : vP p = false := by simpa using v1
    have hR : restR p x cs = (⟨[], []⟩, 1) := by unfold restR; rw [if_neg v1]
    have HR := Lib.hid hR
    have V1 := Lib.hid v1'
    clear v1 v1' hR
    go_enter Try.func22, Try.ntmps22
    go_wp2_with fail
    refine (HV.out).mono ?_
    rintro e w1 ⟨rfl, hb1⟩
    rw [V1.out]
    obtain ⟨qb1, qf1, yb1⟩ := bcellAt hb1 (b := w.heap.size + 1) (by omega)
    have B1 := Lib.hid (B0.out.trans (hb1.mono B0.out.size))
    clear hb1
    go_wp2
    exact bodyPost_ret (v := .tuple #[.agg #[.slice none 0 0, .slice none 0 0], .int .i64 1]) (by simp [results, Try.results22, go_sem, *]) rfl (by rw [HR.out]; exact NewP.none_ rfl ((B1.out.setCell (p := ⟨w.heap.size + 1, 0, none⟩) (by show w.heap.size ≤ w.heap.size + 1; omega) _).setCell (p := ⟨w.heap.size + 1, 1, none⟩) (by show w.heap.size ≤ w.heap.size + 1; omega) _))
end Go.Proofs.Ytknjgppdmdfmoaa
