/- Contracts: violations and assignments of the program, at a valid problem and an assignment. -/
import Derived.Test.YtpnllibboeeaaaaFp2
import Derived.Lib.MinMax
namespace Go.Proofs.Ytpnllibboeeaaaa
open Go.RowKit
set_option linter.unusedVariables false
set_option linter.unusedSimpArgs false

theorem absI_any (n : Int) (h : -1099511627776 ≤ n ∧ n ≤ 1099511627776) (w : World) :
    Calls Try.prog 34 #[.int .i64 n] w fun e w' => e = .returned (.int .i64 (max n (-n))) ∧ w = w' := by
  obtain ⟨h1, h2⟩ := h
  go_enter Try.func34, Try.ntmps34
  go_wp2
  go_ret
  exact ⟨rfl, rfl⟩
theorem any_mem {l : List Int} {x : Int} (h : x ∈ l) : l.any (fun y => x == y) = true := List.any_eq_true.2 ⟨x, h, by simp⟩
set_option maxHeartbeats 4000000 in
theorem isAsg_any (p : DProblem) (l : List Int) (d a lv : Value) (w : World) (hd : Rd w.heap.size w (intssT p.domains) d) (ha : Rd w.heap.size w (intssT p.apart) a) (hl : Rd w.heap.size w (intsT l) lv) (hv : ValidP p) (h : AsgOk p l) :
    Calls Try.prog 17 #[.agg #[d, a], lv] w fun e w' => e = .returned (.bool true) ∧ Below w.heap.size w w' := by
  have b0 := below_alloc w (.cells #[d, a] 26)
  have K0 := Lib.hid (bkN w #[d, a] 26)
  obtain ⟨a1, c1, rfl, _, _, hcells⟩ := hd.rowAt
  obtain ⟨al, cl, rfl, _, _, hlc⟩ := hl.ints
  obtain ⟨a2, c2, rfl, _, _, _⟩ := ha.intss
  have hll := h.len
  have hn2 := hv.n2
  have HCT : Hid (∀ (i : Nat) (u : Value) (W : World), i < l.length → Rd w.heap.size W (intsT (row p.domains i)) u → Below w.heap.size w W → Calls Try.prog 29 #[u, .int .i64 (gi l i)] W fun e w' => e = .returned (.bool true) ∧ W = w') := fun i u W hi hr hb => by
    have := containsI_any (row p.domains i) (gi l i) u w.heap.size W hr hb.size (by have := (domB_bd (hv.dom i (by omega))).2.1; omega)
    rw [any_mem (h.mem i hi)] at this
    exact this
  have HC := Lib.hid hcells
  have HLC := Lib.hid hlc
  have B0 := Lib.hid b0
  have hnn : ((l.length : Int) != (p.domains.length : Int)) = false := by rw [hll]; simp
  have hl24 : (l.length : Int) ≤ 24 := by omega
  have HLL := Lib.hid hll
  have hnn' : ((l.length : Int) < 25) := by omega
  clear hd ha hl hcells hlc hll
  generalize hW : w.alloc (.cells #[.slice a1 p.domains.length c1, .slice a2 p.apart.length c2] 26) = W0 at *
  have hz : w.heap.size < W0.heap.size := by rw [← hW]; simp
  have HW := Lib.hid hW
  clear hW b0
  go_enter Try.func17, Try.ntmps17
  go_upto_region 1 with (fail)
  rw [HW.out]
  have x0 := bkC K0.out 0 rfl
  go_wp2_with (fail)
  clear x0
  go_loopw [15] (fun i wr => ∃ (k : Nat), k ≤ l.length ∧ i = .int .i64 k ∧ Below W0.heap.size W0 wr) (fun i wr => l.length - (intOf i).toNat)
  case atStart => exact ⟨0, Nat.zero_le _, rfl, Below.refl _ _⟩
  case round =>
    obtain ⟨k, hk, rfl, hb⟩ := hrel
    have HB := Lib.hid hb
    have HBW := Lib.hid (B0.out.trans (hb.mono (by omega)))
    have x0 := bkC (bkB K0.out hb hz) 0 rfl
    clear hb
    by_cases hlt : k < l.length
    · obtain ⟨b, off, rfl, hbl, hat⟩ := HC.out (by have := HLL.out; omega)
      obtain ⟨a', c', s0, _, _, hrd, _⟩ := hat k (by have := HLL.out; omega)
      obtain ⟨bl, ol, rfl, hbl2, hat2⟩ := HLC.out (by omega)
      have s1 := hat2 k hlt
      rw [gi_eq hlt] at s1
      have u0 := (bat HBW.out _ _ hbl).trans s0
      have u1 := (bat HBW.out _ _ hbl2).trans s1
      have HR := Lib.hid (hrd.below HBW.out)
      have i1 : (0 : Int) ≤ (k : Int) := by omega
      have i2 : (k : Int) < (l.length : Int) := by omega
      have i3 : (k : Int) < (p.domains.length : Int) := by have := HLL.out; omega
      clear s0 s1 hrd hat hat2
      go_wp2_with (fail)
      go_at_call 29
      refine (HCT.out k _ wr hlt HR.out HBW.out).mono ?_
      rintro e w2 ⟨rfl, rfl⟩
      go_wp2_with (fail)
      go_roundw
      case rel => exact ⟨k + 1, by omega, by go_num, HB.out⟩
      case measure => simp [intOf]; omega
    · go_wp2_with (fail)
      go_ret
      exact ⟨rfl, HBW.out⟩
set_option maxHeartbeats 8000000 in
set_option maxRecDepth 100000 in
theorem violations_any (p : DProblem) (l : List Int) (d a lv : Value) (w : World) (hd : Rd w.heap.size w (intssT p.domains) d) (ha : Rd w.heap.size w (intssT p.apart) a) (hl : Rd w.heap.size w (intsT l) lv) (hv : ValidP p) (h : AsgOk p l) :
    Calls Try.prog 18 #[.agg #[d, a], lv] w fun e w' => ∃ (a' : Option Addr) (n c : Nat), e = .returned (.slice a' n c) ∧ (n = 0 ↔ FineP p.apart l) ∧ Below w.heap.size w w' := by
  obtain ⟨i0, hi0, hz0, hz1, hz2⟩ := info_partsI info28
  have b0 := below_alloc w (.cells #[d, a] 26)
  have K0 := Lib.hid (bkN w #[d, a] 26)
  obtain ⟨a1, c1, rfl, _, _, _⟩ := hd.intss
  obtain ⟨al, cl, rfl, _, _, hlc⟩ := hl.ints
  obtain ⟨a2, c2, rfl, _, _, hcells⟩ := ha.rowAt
  have hll := h.len
  have hla := hv.len
  have hn2 := hv.n2
  have HBD : Hid (∀ i, i < l.length → 0 ≤ gi l i ∧ gi l i ≤ 999) := fun i hi => h.bd hv i hi
  have HRL : Hid (∀ i, i < l.length → (row p.apart i).length = l.length) := fun i hi => by rw [(hv.rows i (by omega)).len]; omega
  have HA : Hid (∀ n : Int, -1099511627776 ≤ n ∧ n ≤ 1099511627776 → ∀ W : World, Calls Try.prog 34 #[.int .i64 n] W fun e w' => e = .returned (.int .i64 (max n (-n))) ∧ W = w') := fun n hn W => absI_any n hn W
  have HC := Lib.hid hcells
  have HLC := Lib.hid hlc
  have B0 := Lib.hid b0
  have hl24 : (l.length : Int) ≤ 24 := by omega
  have hlN : l.length ≤ 24 := by omega
  have hal : p.apart.length = l.length := by omega
  have HAL := Lib.hid hal
  clear hd ha hl hcells hlc hv h hll hla hal
  generalize hW : w.alloc (.cells #[.slice a1 p.domains.length c1, .slice a2 p.apart.length c2] 26) = W0 at *
  have hz : w.heap.size < W0.heap.size := by rw [← hW]; simp
  have HW := Lib.hid hW
  clear hW b0
  go_enter Try.func18, Try.ntmps18
  go_upto_region 1 with (fail)
  rw [HW.out]
  go_wp2_with (fail)
  go_loopw [5, 10] (fun v iv wr => ∃ (i n C : Nat) (A : Option Addr) (ts : List Tr) (f : List Nat), i ≤ l.length ∧ iv = .int .i64 (i : Int) ∧ v = .slice A n C ∧ n ≤ 24 * i ∧ (n = 0 ↔ ∀ x y, x < i → x < y → y < l.length → ¬ nearP p.apart l x y) ∧ Grow wr W0.heap.size 28 1 (.slice A n C) n ts f ∧ In W0.heap.size wr.heap.size f ∧ Below W0.heap.size W0 wr) (fun _ iv wr => l.length - (intOf iv).toNat)
  case atStart => exact ⟨0, 0, 0, none, [], [], Nat.zero_le _, rfl, rfl, by omega, ⟨fun _ x y hx => by omega, fun _ => rfl⟩, Grow.nil, In.nil, Below.refl _ _⟩
  case round =>
    obtain ⟨i, n, C, A, ts, f, hi, rfl, rfl, hn, hiff, hgr, hin, hb⟩ := hrel
    have HI := Lib.hid hiff
    have HG := Lib.hid hgr
    have HIN := Lib.hid hin
    have HB := Lib.hid hb
    have zo := hb.size
    clear hiff hgr hin hb
    generalize wr = wo at *
    by_cases hlt : i < l.length
    · have hii : (i : Int) < (l.length : Int) := by omega
      go_wp2_with (fail)
      go_loopw [5, 7] (fun v jv wr => ∃ (j n C : Nat) (A : Option Addr) (ts : List Tr) (f : List Nat), i < j ∧ j ≤ l.length ∧ jv = .int .i64 (j : Int) ∧ v = .slice A n C ∧ n ≤ 24 * i + j ∧ (n = 0 ↔ (∀ x y, x < i → x < y → y < l.length → ¬ nearP p.apart l x y) ∧ ∀ y, i < y → y < j → ¬ nearP p.apart l i y) ∧ Grow wr W0.heap.size 28 1 (.slice A n C) n ts f ∧ In W0.heap.size wr.heap.size f ∧ Below W0.heap.size W0 wr) (fun _ jv wr => l.length - (intOf jv).toNat)
      case atStart => exact ⟨i + 1, n, C, A, ts, f, by omega, by omega, by go_num, rfl, by omega, ⟨fun h => ⟨HI.out.1 h, fun y h1 h2 => by omega⟩, fun h => HI.out.2 h.1⟩, HG.out, HIN.out, HB.out⟩
      case round =>
        clear HI HG HIN HB
        obtain ⟨j, n2, C2, A2, ts2, f2, hij, hj, rfl, rfl, hn', hiff, hgr, hin, hb⟩ := hrel
        have HI := Lib.hid hiff
        have HG := Lib.hid hgr
        have HIN := Lib.hid hin
        have HB := Lib.hid hb
        have zr := hb.size
        have HBW := Lib.hid (B0.out.trans (hb.mono (by omega)))
        have x1 := bkC (bkB K0.out hb hz) 1 rfl
        clear hiff hgr hin hb
        by_cases hlt2 : j < l.length
        · obtain ⟨b, off, rfl, hbl, hat⟩ := HC.out (by have := HAL.out; omega)
          obtain ⟨a', c', s0, _, _, _, hcol⟩ := hat i (by have := HAL.out; omega)
          obtain ⟨b', off', rfl, hb', s2⟩ := hcol j (by rw [HRL.out i hlt]; exact hlt2)
          obtain ⟨bl, ol, rfl, hbl2, hat2⟩ := HLC.out (by omega)
          have s3 := hat2 i hlt
          have s4 := hat2 j hlt2
          rw [gi_eq hlt] at s3
          rw [gi_eq hlt2] at s4
          rw [HRL.out i hlt] at s0
          have u0 := (bat HBW.out _ _ hbl).trans s0
          have u2 := (bat HBW.out _ _ hb').trans s2
          have u3 := (bat HBW.out _ _ hbl2).trans s3
          have u4 := (bat HBW.out _ _ hbl2).trans s4
          have hbi := HBD.out i hlt
          have hbj := HBD.out j hlt2
          have HNR : Hid (nearP p.apart l i j ↔ max (gi l i - gi l j) (-(gi l i - gi l j)) < ap p.apart i j) := Iff.rfl
          rw [HAL.out] at x1
          generalize gi l i = xi at *
          generalize gi l j = xj at *
          generalize ap p.apart i j = xd at *
          have hw1 : IntKind.i64.wrap (xi - xj) = xi - xj := IntWalk.i64_in _ (by omega)
          have i1 : (0 : Int) ≤ (i : Int) := by omega
          have j1 : (0 : Int) ≤ (j : Int) := by omega
          have j2 : (j : Int) < (l.length : Int) := by omega
          clear s0 s2 s3 s4 hat hat2 hcol
          have HAX := Lib.hid (fun W => HA.out (xi - xj) (by omega) W)
          by_cases hc : max (xi - xj) (-(xi - xj)) < xd
          · have hc' : decide (max (xi - xj) (-(xi - xj)) < xd) = true := decide_eq_true hc
            have HCC := Lib.hid hc
            clear hc
            go_wp2_with (fail)
            go_quiet ((go_at_call 34; exact quiet_left (HAX.out _)))
            rename_i nq
            have bd : Below wr.heap.size wr (wr.drewN nq) := below_drewN (Below.refl _ _) nq
            have HG3 := Lib.hid (HG.out.below HIN.out bd)
            have HIN3 : Hid (In W0.heap.size (wr.drewN nq).heap.size f2) := HIN.out
            have HB3 : Hid (Below W0.heap.size W0 (wr.drewN nq)) := below_drewN HB.out nq
            have z3 : wr.heap.size ≤ (wr.drewN nq).heap.size := Nat.le_refl _
            clear HG HIN HB bd
            generalize wr.drewN nq = w3 at *
            have bX := below_alloc w3 (.cells #[.int .i64 (i : Int), .int .i64 (j : Int)] 2)
            have HGX := Lib.hid (HG3.out.below HIN3.out bX)
            have HBX : Hid (Below W0.heap.size W0 (w3.alloc (.cells #[.int .i64 (i : Int), .int .i64 (j : Int)] 2))) := HB3.out.alloc (by omega) _
            have zX : (w3.alloc (.cells #[.int .i64 (i : Int), .int .i64 (j : Int)] 2)).heap.size = w3.heap.size + 1 := by simp
            have OX : Hid (Own (w3.alloc (.cells #[.int .i64 (i : Int), .int .i64 (j : Int)] 2)) (intsT [(i : Int), (j : Int)]) (.slice (some ⟨w3.heap.size, 0, none⟩) 2 2) [w3.heap.size]) := own_rowI w3 2 #[.int .i64 (i : Int), .int .i64 (j : Int)] [(i : Int), (j : Int)] rfl (by simp) (by simp [maxLen])
            have HIX : Hid (In W0.heap.size (w3.alloc (.cells #[.int .i64 (i : Int), .int .i64 (j : Int)] 2)).heap.size f2) := HIN3.out.mono (Nat.le_refl _) (by omega)
            have HIO : Hid (In W0.heap.size (w3.alloc (.cells #[.int .i64 (i : Int), .int .i64 (j : Int)] 2)).heap.size [w3.heap.size]) := fun y hy => by simp at hy; subst hy; omega
            have FX : Hid (∀ y ∈ [w3.heap.size], y ∉ f2 ∧ ∀ b, (Value.slice A2 n2 C2).ownBlock = some b → b ≠ y) := fun y hy => by
              simp at hy; subst hy
              exact ⟨fun e => by have := (HIN3.out _ e).2; omega, fun b e => by have := (HG3.out.block e).2; omega⟩
            clear bX HG3 HIN3 HB3
            go_wp2_with (at_builtin; refine wpList_append1 rfl (.tmp 40) (.tmp 44) _ rfl W0.heap.size 28 i0 _ 1 24 Try.underlying24 hi0 hz0 hz1 hz2 rfl (by omega) _ _ _ f2 rfl HGX.out [.slice (some ⟨w3.heap.size, 0, none⟩) 2 2] [intsT [(i : Int), (j : Int)]] [w3.heap.size] rfl 1 (by rw [zX]; rfl) (fun u hu => by simp at hu; subst hu; rfl) (RepV.one OX.out.rep) OX.out.nd OX.out.free W0.heap.size HIX.out HIO.out (fun y h1 h2 => (FX.out y h1).1 h2) (fun y h1 h2 => (FX.out y h2).2 y h1 rfl) (by unfold maxLen; omega) (by omega) (by omega) ?_; intro v5 w5 hgn; obtain ⟨a5, c5, e5⟩ := growSlice hgn.grow; subst e5; have HGN := Lib.hid hgn; clear hgn)
            have z5 := HGN.out.size
            go_wp2_with (fail)
            go_roundw
            case rel =>
              refine ⟨j + 1, n2 + 1, c5, a5, ts2 ++ [intsT [(i : Int), (j : Int)]], f2 ++ [w3.heap.size], by omega, by omega, by go_num, rfl, by omega, ⟨fun e => by omega, fun e => absurd (HNR.out.2 HCC.out) (e.2 j hij (by omega))⟩, HGN.out.grow, (HIX.out.append HIO.out).mono (Nat.le_refl _) (by omega), HBX.out.trans HGN.out.below⟩
            case measure => simp [intOf]; omega
          · have hc' : decide (max (xi - xj) (-(xi - xj)) < xd) = false := decide_eq_false hc
            have HCC := Lib.hid hc
            clear hc
            go_wp2_with (fail)
            go_quiet ((go_at_call 34; exact quiet_left (HAX.out _)))
            rename_i nq
            have bd : Below wr.heap.size wr (wr.drewN nq) := below_drewN (Below.refl _ _) nq
            have HG3 := Lib.hid (HG.out.below HIN.out bd)
            have HIN3 : Hid (In W0.heap.size (wr.drewN nq).heap.size f2) := HIN.out
            have HB3 : Hid (Below W0.heap.size W0 (wr.drewN nq)) := below_drewN HB.out nq
            clear HG HIN HB bd
            go_wp2_with (fail)
            go_roundw
            case rel =>
              refine ⟨j + 1, n2, C2, A2, ts2, f2, by omega, by omega, by go_num, rfl, by omega, ⟨fun e => ⟨(HI.out.1 e).1, fun y h1 h2 => ?_⟩, fun e => HI.out.2 ⟨e.1, fun y h1 h2 => e.2 y h1 (by omega)⟩⟩, HG3.out, HIN3.out, HB3.out⟩
              by_cases ey : y = j
              · subst ey; exact fun hx => by have h1 := HCC.out; have h2 := HNR.out.1 hx; omega
              · exact (HI.out.1 e).2 y h1 (by omega)
            case measure => simp [intOf]; omega
        · obtain rfl : j = l.length := by omega
          go_wp2_with (fail)
          go_roundw
          case rel =>
            refine ⟨i + 1, n2, C2, A2, ts2, f2, by omega, by go_num, rfl, by omega, ⟨fun e x y hx hxy hy => ?_, fun e => HI.out.2 ⟨fun x y hx hxy hy => e x y (by omega) hxy hy, fun y h1 h2 => e i y (by omega) h1 h2⟩⟩, HG.out, HIN.out, HB.out⟩
            by_cases ex : x = i
            · subst ex; exact (HI.out.1 e).2 y hxy hy
            · exact (HI.out.1 e).1 x y (by omega) hxy hy
          case measure => simp [intOf]; omega
    · obtain rfl : i = l.length := by omega
      go_wp2_with (fail)
      go_ret
      exact ⟨A, n, C, rfl, ⟨fun e a b hab hb => HI.out.1 e a b (by omega) hab hb, fun e => HI.out.2 (fun x y hx hxy hy => e x y hxy hy)⟩, B0.out.trans (HB.out.mono (by omega))⟩
set_option maxHeartbeats 4000000 in
theorem iViolations_any (p : DProblem) (l : List Int) (d a lv : Value) (w : World) (hd : Rd w.heap.size w (intssT p.domains) d) (ha : Rd w.heap.size w (intssT p.apart) a) (hl : Rd w.heap.size w (intsT l) lv) (hv : ValidP p) (h : AsgOk p l) :
    Calls Try.prog 7 #[.agg #[d, a], lv] w fun e w' => ∃ (a' : Option Addr) (n c : Nat), e = .returned (.tuple #[.slice a' n c, .int .i64 0]) ∧ (n = 0 ↔ FineP p.apart l) ∧ Below w.heap.size w w' := by
  have b0 := below_alloc w (.cells #[d, a] 26)
  have K0 := Lib.hid (bkN w #[d, a] 26)
  have hsz := hv.siz
  have HV : Hid (∀ W, Below w.heap.size w W → Calls Try.prog 16 #[.agg #[d, a]] W fun e w' => e = .returned (.bool true) ∧ Below W.heap.size W w') := fun W hb => by
    have := iValidProblem_any p d a w.heap.size W (hd.below hb) (ha.below hb) hb.size (by omega) (by omega)
    rw [vP_true hv] at this
    exact this
  have HA : Hid (∀ W, Below w.heap.size w W → Calls Try.prog 17 #[.agg #[d, a], lv] W fun e w' => e = .returned (.bool true) ∧ Below W.heap.size W w') := fun W hb => isAsg_any p l d a lv W ((hd.below hb).mono hb.size) ((ha.below hb).mono hb.size) ((hl.below hb).mono hb.size) hv h
  have HO : Hid (∀ W, Below w.heap.size w W → Calls Try.prog 18 #[.agg #[d, a], lv] W fun e w' => ∃ (a' : Option Addr) (n c : Nat), e = .returned (.slice a' n c) ∧ (n = 0 ↔ FineP p.apart l) ∧ Below W.heap.size W w') := fun W hb => violations_any p l d a lv W ((hd.below hb).mono hb.size) ((ha.below hb).mono hb.size) ((hl.below hb).mono hb.size) hv h
  have B0 := Lib.hid b0
  obtain ⟨a1, c1, rfl, _, _, _⟩ := hd.intss
  obtain ⟨a2, c2, rfl, _, _, _⟩ := ha.intss
  obtain ⟨al, cl, rfl, _, _, _⟩ := hl.ints
  clear hd ha hl hsz b0
  generalize hW : w.alloc (.cells #[.slice a1 p.domains.length c1, .slice a2 p.apart.length c2] 26) = W0 at *
  have hz : w.heap.size < W0.heap.size := by rw [← hW]; simp
  have HW := Lib.hid hW
  clear hW
  go_enter Try.func7, Try.ntmps7
  go_upto_region 1 with (fail)
  rw [HW.out]
  obtain ⟨x0, x1⟩ : W0.cell? ⟨w.heap.size, 0, none⟩ = some (.slice a1 p.domains.length c1) ∧ W0.cell? ⟨w.heap.size, 1, none⟩ = some (.slice a2 p.apart.length c2) := ⟨bkC K0.out 0 rfl, bkC K0.out 1 rfl⟩
  go_wp2_with (fail)
  go_at_call 16
  refine (HV.out _ B0.out).mono ?_
  rintro e w1 ⟨rfl, hb1⟩
  have B1 := Lib.hid (B0.out.trans (hb1.mono (by omega)))
  have K1 := Lib.hid (bkB K0.out hb1 hz)
  have z1 := hb1.size
  clear hb1 x0 x1
  obtain ⟨x0, x1⟩ : w1.cell? ⟨w.heap.size, 0, none⟩ = some (.slice a1 p.domains.length c1) ∧ w1.cell? ⟨w.heap.size, 1, none⟩ = some (.slice a2 p.apart.length c2) := ⟨bkC K1.out 0 rfl, bkC K1.out 1 rfl⟩
  go_wp2_with (fail)
  go_at_call 17
  refine (HA.out _ B1.out).mono ?_
  rintro e w2 ⟨rfl, hb2⟩
  have B2 := Lib.hid (B1.out.trans (hb2.mono (by omega)))
  have K2 := Lib.hid (bkB K1.out hb2 (by omega))
  have z2 := hb2.size
  clear hb2 x0 x1
  obtain ⟨x0, x1⟩ : w2.cell? ⟨w.heap.size, 0, none⟩ = some (.slice a1 p.domains.length c1) ∧ w2.cell? ⟨w.heap.size, 1, none⟩ = some (.slice a2 p.apart.length c2) := ⟨bkC K2.out 0 rfl, bkC K2.out 1 rfl⟩
  go_wp2_with (fail)
  go_at_call 18
  refine (HO.out _ B2.out).mono ?_
  rintro e w3 ⟨a', n, c, rfl, hiff, hb3⟩
  have HI := Lib.hid hiff
  have B3 := Lib.hid (B2.out.trans (hb3.mono (by omega)))
  clear hb3 x0 x1 hiff
  go_wp2_with (fail)
  go_ret2
  exact ⟨a', n, c, rfl, HI.out, B3.out⟩
set_option maxHeartbeats 4000000 in
theorem iValidAsg_any (p : DProblem) (l : List Int) (d a lv : Value) (w : World) (hd : Rd w.heap.size w (intssT p.domains) d) (ha : Rd w.heap.size w (intssT p.apart) a) (hl : Rd w.heap.size w (intsT l) lv) (hv : ValidP p) (h : AsgOk p l) :
    Calls Try.prog 8 #[.agg #[d, a], lv] w fun e w' => e = .returned (.bool (fineB p.apart l)) ∧ Below w.heap.size w w' := by
  have b0 := below_alloc w (.cells #[d, a] 26)
  have K0 := Lib.hid (bkN w #[d, a] 26)
  have hsz := hv.siz
  have HV : Hid (∀ W, Below w.heap.size w W → Calls Try.prog 16 #[.agg #[d, a]] W fun e w' => e = .returned (.bool true) ∧ Below W.heap.size W w') := fun W hb => by
    have := iValidProblem_any p d a w.heap.size W (hd.below hb) (ha.below hb) hb.size (by omega) (by omega)
    rw [vP_true hv] at this
    exact this
  have HA : Hid (∀ W, Below w.heap.size w W → Calls Try.prog 17 #[.agg #[d, a], lv] W fun e w' => e = .returned (.bool true) ∧ Below W.heap.size W w') := fun W hb => isAsg_any p l d a lv W ((hd.below hb).mono hb.size) ((ha.below hb).mono hb.size) ((hl.below hb).mono hb.size) hv h
  have HO : Hid (∀ W, Below w.heap.size w W → Calls Try.prog 18 #[.agg #[d, a], lv] W fun e w' => ∃ (a' : Option Addr) (n c : Nat), e = .returned (.slice a' n c) ∧ (n = 0 ↔ FineP p.apart l) ∧ Below W.heap.size W w') := fun W hb => violations_any p l d a lv W ((hd.below hb).mono hb.size) ((ha.below hb).mono hb.size) ((hl.below hb).mono hb.size) hv h
  have B0 := Lib.hid b0
  obtain ⟨a1, c1, rfl, _, _, _⟩ := hd.intss
  obtain ⟨a2, c2, rfl, _, _, _⟩ := ha.intss
  obtain ⟨al, cl, rfl, _, _, _⟩ := hl.ints
  clear hd ha hl hsz b0
  generalize hW : w.alloc (.cells #[.slice a1 p.domains.length c1, .slice a2 p.apart.length c2] 26) = W0 at *
  have hz : w.heap.size < W0.heap.size := by rw [← hW]; simp
  have HW := Lib.hid hW
  clear hW
  go_enter Try.func8, Try.ntmps8
  go_upto_region 1 with (fail)
  rw [HW.out]
  obtain ⟨x0, x1⟩ : W0.cell? ⟨w.heap.size, 0, none⟩ = some (.slice a1 p.domains.length c1) ∧ W0.cell? ⟨w.heap.size, 1, none⟩ = some (.slice a2 p.apart.length c2) := ⟨bkC K0.out 0 rfl, bkC K0.out 1 rfl⟩
  go_wp2_with (fail)
  go_at_call 16
  refine (HV.out _ B0.out).mono ?_
  rintro e w1 ⟨rfl, hb1⟩
  have B1 := Lib.hid (B0.out.trans (hb1.mono (by omega)))
  have K1 := Lib.hid (bkB K0.out hb1 hz)
  have z1 := hb1.size
  clear hb1 x0 x1
  obtain ⟨x0, x1⟩ : w1.cell? ⟨w.heap.size, 0, none⟩ = some (.slice a1 p.domains.length c1) ∧ w1.cell? ⟨w.heap.size, 1, none⟩ = some (.slice a2 p.apart.length c2) := ⟨bkC K1.out 0 rfl, bkC K1.out 1 rfl⟩
  go_wp2_with (fail)
  go_at_call 17
  refine (HA.out _ B1.out).mono ?_
  rintro e w2 ⟨rfl, hb2⟩
  have B2 := Lib.hid (B1.out.trans (hb2.mono (by omega)))
  have K2 := Lib.hid (bkB K1.out hb2 (by omega))
  have z2 := hb2.size
  clear hb2 x0 x1
  obtain ⟨x0, x1⟩ : w2.cell? ⟨w.heap.size, 0, none⟩ = some (.slice a1 p.domains.length c1) ∧ w2.cell? ⟨w.heap.size, 1, none⟩ = some (.slice a2 p.apart.length c2) := ⟨bkC K2.out 0 rfl, bkC K2.out 1 rfl⟩
  go_wp2_with (fail)
  go_at_call 18
  refine (HO.out _ B2.out).mono ?_
  rintro e w3 ⟨a', n, c, rfl, hiff, hb3⟩
  have HI : Hid (((n : Int) == 0) = fineB p.apart l) := by
    show _ = _
    rw [Bool.eq_iff_iff, fineB_iff, ← hiff]
    simp
  have B3 := Lib.hid (B2.out.trans (hb3.mono (by omega)))
  clear hb3 x0 x1 hiff
  go_wp2_with (fail)
  go_ret
  exact ⟨by rw [← HI.out]; rfl, B3.out⟩
theorem sValidProblem_any (p : DProblem) (d a : Value) (w : World) (hd : Rd w.heap.size w (intssT p.domains) d) (ha : Rd w.heap.size w (intssT p.apart) a) (hv : ValidP p) :
    Calls Try.prog 10 #[.agg #[d, a]] w fun e w' => e = .returned (.bool true) ∧ Below w.heap.size w w' := by
  have b0 := below_alloc w (.cells #[d, a] 26)
  have k0 := bkN w #[d, a] 26
  have hsz := hv.siz
  have HO := Lib.hid (l17Ok_any p d a w.heap.size w.heap.size _ (hd.below b0) (ha.below b0) (by simp) (by omega) (by omega) (bkC k0 0 rfl) (bkC k0 1 rfl) (by simp))
  rw [vP_true hv] at HO
  have B0 := Lib.hid b0
  obtain ⟨a1, c1, rfl, _, _, _⟩ := hd.intss
  obtain ⟨a2, c2, rfl, _, _, _⟩ := ha.intss
  clear hd ha hsz b0 k0 hv
  go_enter Try.func10, Try.ntmps10
  go_wp2_with (fail)
  go_at_call 22
  refine HO.out.mono ?_
  rintro e w1 ⟨rfl, hb1⟩
  have B1 := Lib.hid (B0.out.trans (hb1.mono (by simp)))
  clear hb1
  go_wp2_with (fail)
  go_ret
  exact ⟨rfl, B1.out⟩
end Go.Proofs.Ytpnllibboeeaaaa
