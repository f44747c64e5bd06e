/- Contracts: points and sites, read and written, for the program and for the reference. Conditions: bounded sizes; the library's own variables hold what they hold at the start. -/
import Derived.Test.YtjgolknofmnppaaDoorRd3
import Derived.Test.YtjgolknofmnppaaDoorBox
import Derived.Test.YtjgolknofmnppaaDoorOrd
namespace Go.Proofs.YtjgolknofmnppaaDoor
open Go.RowKit
set_option linter.unusedVariables false
set_option linter.unusedSimpArgs false

theorem ofL_app (a b : List UInt8) : ofL a ++ ofL b = ofL (a ++ b) := by
  rw [← ofL_bl (ofL a ++ ofL b)]
  congr 1
theorem rd_freshI (w : World) (E : Nat) (cells : Array Value) (l : List Int) (c : Nat) (hc : l.length ≤ c) (hm : c ≤ maxLen) (h : ∀ (i : Nat) (hi : i < l.length), cells[i]? = some (.int .i64 l[i])) :
    Rd (w.heap.size + 1) (w.alloc (.cells cells E)) (intsT l) (.slice (some ⟨w.heap.size, 0, none⟩) l.length c) := by
  by_cases h0 : l = []
  · subst h0
    exact ⟨[], Rep_sl.2 ⟨_, 0, c, rfl, by simp, Nat.zero_le _, hm, Or.inl ⟨rfl, rfl⟩⟩, fun b hb => by simp at hb⟩
  · refine ⟨[w.heap.size], Rep_sl.2 ⟨_, l.length, c, rfl, by simp, hc, hm, Or.inr ⟨w.heap.size, 0, [], by simpa using h0, rfl, rfl, ?_⟩⟩, fun b hb => by simp at hb; omega⟩
    have e : l.map intT = (l.map (Value.int .i64)).map Tr.lit := by rw [List.map_map]; rfl
    rw [e]
    refine Reps.lits _ _ _ (fun i hi => ?_)
    have hi' : i < l.length := by simpa using hi
    have := h i hi'
    have hh : (w.alloc (.cells cells E)).heap[w.heap.size]? = some (.cells cells E (0, 0)) := by show (w.heap.push _)[w.heap.size]? = _; simp
    simp only [List.getElem_map, Nat.zero_add]
    rw [cell_of_row' hh]
    exact this
/-- so many numbers, or zeros -/
def numsR (l : List UInt8) (k : Nat) : List Int := match readM l k with
  | some vs => vs
  | none => List.replicate k 0
def numsB (l : List UInt8) (k : Nat) : Bool := (readM l k).isSome
theorem numsR_len (l : List UInt8) (k : Nat) : (numsR l k).length = k := by
  unfold numsR
  cases h : readM l k with
  | none => simp
  | some vs => exact (readM_some h).2
set_option maxHeartbeats 4000000 in
theorem readNumbers2_any (s : ByteArray) (hs : s.size ≤ 1048576) (w : World) (L : LibW w) : Calls Tryd.prog 32 #[.string s, .int .i64 2] w fun e w' => ∃ a c, e = .returned (.tuple #[.slice a 2 c, .bool (numsB (bl s) 2)]) ∧ Below w.heap.size w w' ∧ Rd w'.heap.size w' (intsT (numsR (bl s) 2)) (.slice a 2 c) := by
  have HR := Lib.hid (iReadList_any s hs w L)
  have hmk := fun W : World => (show (Instr.makeSlice 57 (.int .i64 2) (.int .i64 2)).run Tryd.prog W = .ok (.slice (some ⟨W.heap.size, 0, none⟩) 2 2) (W.alloc (.cells #[.int .i64 0, .int .i64 0] 2)) by kernel_rfl)
  cases hr : readL (bl s) with
  | none =>
    have HE : Hid (numsR (bl s) 2 = List.replicate 2 0) := by show _ = _; unfold numsR readM; rw [hr]
    have HEB : Hid (numsB (bl s) 2 = false) := by show _ = _; unfold numsB readM; rw [hr]; rfl
    have hvs : True := trivial
    rw [hr] at HR
    clear hr L
    go_enter Tryd.func32, Tryd.ntmps32
    go_wp2_with fail
    refine HR.out.mono ?_
    rintro e w2 ⟨rfl, hb2⟩
    have BW := Lib.hid hb2
    clear hb2
    have HF := Lib.hid (rd_freshI w2 2 #[.int .i64 0, .int .i64 0] (List.replicate 2 0) 2 (by simp) (by unfold maxLen; omega) (fun i hi => by
      have : i < 2 := by simpa using hi
      match i, this with
      | 0, _ => rfl
      | 1, _ => rfl))
    clear hvs
    go_wp2
    go_ret2
    rw [HE.out, HEB.out]
    exact ⟨_, 2, rfl, BW.out.trans ((Below.refl _ _).alloc BW.out.size _), by simpa using HF.out.mono (by simp)⟩
  | some vs =>
    rw [hr] at HR
    by_cases hvl : vs.length = 2
    case neg =>
      have HE : Hid (numsR (bl s) 2 = List.replicate 2 0) := by show _ = _; unfold numsR readM; rw [hr]; simp [hvl]
      have HEB : Hid (numsB (bl s) 2 = false) := by show _ = _; unfold numsB readM; rw [hr]; simp [hvl]
      have hvs : ((vs.length : Int) != 2) = true := by rw [bne_iff_ne]; omega
      have hvs2 : ((vs.length : Int) == 2) = false := by rw [beq_eq_false_iff_ne]; omega
      clear hr L hvl
      go_enter Tryd.func32, Tryd.ntmps32
      go_wp2_with fail
      refine HR.out.mono ?_
      rintro e w2 ⟨a, c, rfl, hb2, hr2⟩
      have BW := Lib.hid hb2
      clear hb2 hr2
      have HF := Lib.hid (rd_freshI w2 2 #[.int .i64 0, .int .i64 0] (List.replicate 2 0) 2 (by simp) (by unfold maxLen; omega) (fun i hi => by
        have : i < 2 := by simpa using hi
        match i, this with
        | 0, _ => rfl
        | 1, _ => rfl))
      go_wp2
      go_ret2
      rw [HE.out, HEB.out]
      exact ⟨_, 2, rfl, BW.out.trans ((Below.refl _ _).alloc BW.out.size _), by simpa using HF.out.mono (by simp)⟩
    case pos =>
      have HE : Hid (numsR (bl s) 2 = vs) := by show _ = _; unfold numsR readM; rw [hr]; simp [hvl]
      have HEB : Hid (numsB (bl s) 2 = true) := by show _ = _; unfold numsB readM; rw [hr]; simp [hvl]
      clear hr L
      have HR2 : Hid (Calls Tryd.prog 57 #[.string s] w fun e w' => ∃ a c, e = .returned (.tuple #[.slice a 2 c, .bool true]) ∧ Below w.heap.size w w' ∧ Rd w'.heap.size w' (intsT vs) (.slice a 2 c)) := by
        have := HR.out
        unfold ReadP at this
        simp only [hvl] at this
        exact this
      clear HR hvl
      go_enter Tryd.func32, Tryd.ntmps32
      go_wp2_with fail
      refine HR2.out.mono ?_
      rintro e w2 ⟨a, c, rfl, hb2, hr2⟩
      have BW := Lib.hid hb2
      have RW := Lib.hid hr2
      clear hb2 hr2 hmk
      go_wp2
      go_ret2
      rw [HE.out, HEB.out]
      exact ⟨a, c, rfl, BW.out, RW.out⟩
set_option maxHeartbeats 4000000 in
theorem readNumbers4_any (s : ByteArray) (hs : s.size ≤ 1048576) (w : World) (L : LibW w) : Calls Tryd.prog 32 #[.string s, .int .i64 4] w fun e w' => ∃ a c, e = .returned (.tuple #[.slice a 4 c, .bool (numsB (bl s) 4)]) ∧ Below w.heap.size w w' ∧ Rd w'.heap.size w' (intsT (numsR (bl s) 4)) (.slice a 4 c) := by
  have HR := Lib.hid (iReadList_any s hs w L)
  have hmk := fun W : World => (show (Instr.makeSlice 57 (.int .i64 4) (.int .i64 4)).run Tryd.prog W = .ok (.slice (some ⟨W.heap.size, 0, none⟩) 4 4) (W.alloc (.cells #[.int .i64 0, .int .i64 0, .int .i64 0, .int .i64 0] 2)) by kernel_rfl)
  cases hr : readL (bl s) with
  | none =>
    have HE : Hid (numsR (bl s) 4 = List.replicate 4 0) := by show _ = _; unfold numsR readM; rw [hr]
    have HEB : Hid (numsB (bl s) 4 = false) := by show _ = _; unfold numsB readM; rw [hr]; rfl
    have hvs : True := trivial
    rw [hr] at HR
    clear hr L
    go_enter Tryd.func32, Tryd.ntmps32
    go_wp2_with fail
    refine HR.out.mono ?_
    rintro e w2 ⟨rfl, hb2⟩
    have BW := Lib.hid hb2
    clear hb2
    have HF := Lib.hid (rd_freshI w2 2 #[.int .i64 0, .int .i64 0, .int .i64 0, .int .i64 0] (List.replicate 4 0) 4 (by simp) (by unfold maxLen; omega) (fun i hi => by
      have : i < 4 := by simpa using hi
      match i, this with
      | 0, _ => rfl
      | 1, _ => rfl
      | 2, _ => rfl
      | 3, _ => rfl))
    clear hvs
    go_wp2
    go_ret2
    rw [HE.out, HEB.out]
    exact ⟨_, 4, rfl, BW.out.trans ((Below.refl _ _).alloc BW.out.size _), by simpa using HF.out.mono (by simp)⟩
  | some vs =>
    rw [hr] at HR
    by_cases hvl : vs.length = 4
    case neg =>
      have HE : Hid (numsR (bl s) 4 = List.replicate 4 0) := by show _ = _; unfold numsR readM; rw [hr]; simp [hvl]
      have HEB : Hid (numsB (bl s) 4 = false) := by show _ = _; unfold numsB readM; rw [hr]; simp [hvl]
      have hvs : ((vs.length : Int) != 4) = true := by rw [bne_iff_ne]; omega
      have hvs2 : ((vs.length : Int) == 4) = false := by rw [beq_eq_false_iff_ne]; omega
      clear hr L hvl
      go_enter Tryd.func32, Tryd.ntmps32
      go_wp2_with fail
      refine HR.out.mono ?_
      rintro e w2 ⟨a, c, rfl, hb2, hr2⟩
      have BW := Lib.hid hb2
      clear hb2 hr2
      have HF := Lib.hid (rd_freshI w2 2 #[.int .i64 0, .int .i64 0, .int .i64 0, .int .i64 0] (List.replicate 4 0) 4 (by simp) (by unfold maxLen; omega) (fun i hi => by
        have : i < 4 := by simpa using hi
        match i, this with
        | 0, _ => rfl
        | 1, _ => rfl
        | 2, _ => rfl
        | 3, _ => rfl))
      go_wp2
      go_ret2
      rw [HE.out, HEB.out]
      exact ⟨_, 4, rfl, BW.out.trans ((Below.refl _ _).alloc BW.out.size _), by simpa using HF.out.mono (by simp)⟩
    case pos =>
      have HE : Hid (numsR (bl s) 4 = vs) := by show _ = _; unfold numsR readM; rw [hr]; simp [hvl]
      have HEB : Hid (numsB (bl s) 4 = true) := by show _ = _; unfold numsB readM; rw [hr]; simp [hvl]
      clear hr L
      have HR2 : Hid (Calls Tryd.prog 57 #[.string s] w fun e w' => ∃ a c, e = .returned (.tuple #[.slice a 4 c, .bool true]) ∧ Below w.heap.size w w' ∧ Rd w'.heap.size w' (intsT vs) (.slice a 4 c)) := by
        have := HR.out
        unfold ReadP at this
        simp only [hvl] at this
        exact this
      clear HR hvl
      go_enter Tryd.func32, Tryd.ntmps32
      go_wp2_with fail
      refine HR2.out.mono ?_
      rintro e w2 ⟨a, c, rfl, hb2, hr2⟩
      have BW := Lib.hid hb2
      have RW := Lib.hid hr2
      clear hb2 hr2 hmk
      go_wp2
      go_ret2
      rw [HE.out, HEB.out]
      exact ⟨a, c, rfl, BW.out, RW.out⟩
set_option maxHeartbeats 4000000 in
set_option maxRecDepth 100000 in
theorem pointText_any (p : DPoint) (hx : I64 p.x) (hy : I64 p.y) (w : World) (L : LibW w) : Calls Tryd.prog 61 #[.agg #[.int .i64 p.x, .int .i64 p.y]] w fun e w' => e = .returned (.string (ofL (pointText p))) ∧ Below w.heap.size w w' := by
  obtain ⟨W0, hW0, b0, z0, k0⟩ := boxes1 w #[.int .i64 p.x, .int .i64 p.y] 34
  have HW0 := Lib.hid hW0
  clear hW0
  have B0 := Lib.hid b0
  clear b0
  have K0 := Lib.hid k0
  clear k0
  have HD : Hid (∀ W : World, Below W0.heap.size W0 W → (W.cell? ⟨w.heap.size, 0, none⟩ = some (.int .i64 p.x) ∧ W.cell? ⟨w.heap.size, 1, none⟩ = some (.int .i64 p.y))) := fun W hW => ⟨bkC (bkB K0.out hW (by omega)) 0 rfl, bkC (bkB K0.out hW (by omega)) 1 rfl⟩
  have HB : Hid (Below W0.heap.size W0 W0) := Below.refl _ _
  have HH : Hid (∀ W : World, Below W0.heap.size W0 W → Below w.heap.size w W) := fun W hW => B0.out.trans (hW.mono (by omega))
  have CV : Hid (∀ W : World, Calls Tryd.prog 84 #[.agg #[.int .i64 p.x, .int .i64 p.y]] W fun e w' => e = .returned (.bool (pointB p)) ∧ Below W.heap.size W w') := fun W => validPoint_any p W
  have HLW : Hid (∀ W, Below W0.heap.size W0 W → LibW W) := fun W hW => L.mono (HH.out W hW)
  clear L
  have HX : Hid (∀ W, LibW W → Calls Tryd.prog 52 #[.int .i64 p.x] W fun e w' => e = .returned (.string (ofL (Go.Lib.itoa p.x))) ∧ Below W.heap.size W w') := fun W hW => decimal_any p.x hx W hW
  have HY : Hid (∀ W, LibW W → Calls Tryd.prog 52 #[.int .i64 p.y] W fun e w' => e = .returned (.string (ofL (Go.Lib.itoa p.y))) ∧ Below W.heap.size W w') := fun W hW => decimal_any p.y hy W hW
  by_cases hv : pointB p = true
  case neg =>
    have hv' : pointB p = false := Bool.eq_false_iff.2 hv
    rw [hv'] at CV
    have HE : Hid (pointText p = []) := by show _ = _; unfold pointText; rw [if_neg hv]
    clear hv hv' hx hy
    go_enter Tryd.func61, Tryd.ntmps61
    go_upto_region 1 with (fail)
    rw [HW0.out]
    obtain ⟨t0, t1⟩ := HD.out _ HB.out
    go_wp2_with (go_at_call 84; with_reducible refine (CV.out _).mono ?_; rintro e w2 ⟨rfl, hb2⟩; (try clear t0 t1); replace HB := Lib.hid (HB.out.trans (hb2.mono HB.out.size)); clear hb2; obtain ⟨t0, t1⟩ := HD.out _ HB.out)
    go_ret
    exact ⟨by rw [HE.out]; rfl, HH.out _ HB.out⟩
  case pos =>
    rw [hv] at CV
    have HE : Hid (ofL (Go.Lib.itoa p.x) ++ ⟨#[44]⟩ ++ ofL (Go.Lib.itoa p.y) = ofL (pointText p)) := by
      show _ = _
      unfold pointText
      rw [if_pos hv, show (⟨#[44]⟩ : ByteArray) = ofL [44] from rfl, ofL_app, ofL_app]
      simp
    have lx : (ofL (Go.Lib.itoa p.x)).size ≤ 21 := Go.Lib.itoa_length_le p.x hx.1 hx.2
    have ly : (ofL (Go.Lib.itoa p.y)).size ≤ 21 := Go.Lib.itoa_length_le p.y hy.1 hy.2
    clear hv hx hy
    generalize ofL (Go.Lib.itoa p.x) = sx at *
    generalize ofL (Go.Lib.itoa p.y) = sy at *
    have c1 : (⟨#[44]⟩ : ByteArray).size = 1 := rfl
    have a1 := fun W : World => run_string_add_sum (P := Tryd.prog) (w := W) sx ⟨#[44]⟩ (by rw [c1]; omega)
    have a2 := fun W : World => run_string_add_sum (P := Tryd.prog) (w := W) (sx ++ ⟨#[44]⟩) sy (by rw [ByteArray.size_append, c1]; omega)
    clear c1 lx ly
    go_enter Tryd.func61, Tryd.ntmps61
    go_upto_region 1 with (fail)
    rw [HW0.out]
    obtain ⟨t0, t1⟩ := HD.out _ HB.out
    go_upto_region 3 with (go_at_call 84; with_reducible refine (CV.out _).mono ?_; rintro e w2 ⟨rfl, hb2⟩; (try clear t0 t1); replace HB := Lib.hid (HB.out.trans (hb2.mono HB.out.size)); clear hb2; obtain ⟨t0, t1⟩ := HD.out _ HB.out)
    have oB := overC (w0 := w2) (show w.heap.size < w2.heap.size by have := HB.out.size; omega)
    have HLO : Hid (∀ X, LibW (over w2.heap.size w2 X)) := fun X => HLW.out _ (HB.out.trans ((over_below w2.heap.size w2 X).mono HB.out.size))
    refine wp_region_over w2.heap.size w2 (Below.refl _ _) (by kernel_rfl) (by kernel_rfl) ?_
    repeat (go_big_quiet_step (first | (go_at_call 52; with_reducible exact over_left (Nat.le_refl _) (HX.out _ (HLO.out _))) | (go_at_call 52; with_reducible exact over_left (Nat.le_refl _) (HY.out _ (HLO.out _)))))
    refine wpQuiet_nil ?_
    rintro _ ⟨X, rfl⟩
    have BE := Lib.hid (HH.out _ (HB.out.trans ((over_below w2.heap.size w2 X).mono HB.out.size)))
    clear oB
    generalize over w2.heap.size w2 X = w9 at *
    go_wp2
    go_ret
    exact ⟨by rw [HE.out]; rfl, BE.out⟩
theorem bnd_I64 {n : Int} (h : -1000000000000 ≤ n ∧ n ≤ 1000000000000) : I64 n := by constructor <;> omega
theorem numsR_I64 (l : List UInt8) (k : Nat) : ∀ n ∈ numsR l (k + 1), I64 n := by
  intro n hn
  unfold numsR at hn
  cases h : readM l (k + 1) with
  | none => rw [h] at hn; obtain rfl := (List.mem_replicate.1 hn).2; constructor <;> omega
  | some vs => rw [h] at hn; exact bnd_I64 (readM_bnd h n hn)
set_option maxHeartbeats 8000000 in
set_option maxRecDepth 100000 in
theorem iReadPoint_any (s : ByteArray) (hs : s.size ≤ 1048576) (w : World) (L : LibW w) : Calls Tryd.prog 36 #[.string s] w fun e w' => e = .returned (.tuple #[.agg #[.int .i64 ((pointR (bl s)).getD ⟨0, 0⟩).x, .int .i64 ((pointR (bl s)).getD ⟨0, 0⟩).y], .bool (pointR (bl s)).isSome]) ∧ Below w.heap.size w w' := by
  obtain ⟨W0, hW0, b0, z0, k0⟩ := boxes1 w #[.int .i64 0, .int .i64 0] 34
  have HW0 := Lib.hid hW0
  clear hW0
  have B0 := Lib.hid b0
  clear b0
  have K0 := Lib.hid k0
  clear k0
  have HD : Hid (∀ W : World, Below W0.heap.size W0 W → (W.cell? ⟨w.heap.size, 0, none⟩ = some (.int .i64 0) ∧ W.cell? ⟨w.heap.size, 1, none⟩ = some (.int .i64 0))) := fun W hW => ⟨bkC (bkB K0.out hW (by omega)) 0 rfl, bkC (bkB K0.out hW (by omega)) 1 rfl⟩
  have HB : Hid (Below W0.heap.size W0 W0) := Below.refl _ _
  have HH : Hid (∀ W : World, Below W0.heap.size W0 W → Below w.heap.size w W) := fun W hW => B0.out.trans (hW.mono (by omega))
  have HR : Hid (∀ W, Below W0.heap.size W0 W → Calls Tryd.prog 32 #[.string s, .int .i64 2] W fun e w' => ∃ a c, e = .returned (.tuple #[.slice a 2 c, .bool (numsB (bl s) 2)]) ∧ Below W.heap.size W w' ∧ Rd w'.heap.size w' (intsT (numsR (bl s) 2)) (.slice a 2 c)) := fun W hW => readNumbers2_any s hs W (L.mono (HH.out W hW))
  obtain ⟨x, y, hxy⟩ : ∃ x y, numsR (bl s) 2 = [x, y] := by
    have := numsR_len (bl s) 2
    match h : numsR (bl s) 2, this with
    | [x, y], _ => exact ⟨x, y, rfl⟩
  have hIx : I64 x := numsR_I64 (bl s) 1 x (by rw [hxy]; simp)
  have hIy : I64 y := numsR_I64 (bl s) 1 y (by rw [hxy]; simp)
  have HPT : Hid (∀ W, Below W0.heap.size W0 W → Calls Tryd.prog 61 #[.agg #[.int .i64 x, .int .i64 y]] W fun e w' => e = .returned (.string (ofL (pointText ⟨x, y⟩))) ∧ Below W.heap.size W w') := fun W hW => pointText_any ⟨x, y⟩ hIx hIy W (L.mono (HH.out W hW))
  rw [hxy] at HR
  clear L hIx hIy
  cases hr : readM (bl s) 2 with
  | none =>
    have HE : Hid (pointR (bl s) = none) := by show _ = _; unfold pointR; rw [hr]
    have hnb : numsB (bl s) 2 = false := by unfold numsB; rw [hr]; rfl
    rw [hnb] at HR
    clear hr hnb hxy
    go_enter Tryd.func36, Tryd.ntmps36
    go_upto_region 1 with (fail)
    rw [HW0.out]
    obtain ⟨t0, t1⟩ := HD.out _ HB.out
    go_wp2_with fail
    refine (HR.out _ HB.out).mono ?_
    rintro e w2 ⟨a, c, rfl, hb2, hr2⟩
    obtain ⟨_, _, e1, _, _, hcl⟩ := Rd.ints hr2
    injection e1 with e1 _ e3
    subst e1 e3
    obtain ⟨b, off, ea, hbb, hat⟩ := hcl (by simp)
    subst ea
    have x0 := hat 0 (by simp)
    have x1 := hat 1 (by simp)
    simp only [List.getElem_cons_zero, List.getElem_cons_succ, Nat.add_zero] at x0 x1
    have HBX := Lib.hid (HB.out.trans (hb2.mono HB.out.size))
    have HS2 : Hid (∀ W, Below w2.heap.size w2 W → (W.cell? ⟨b, off, none⟩ = some (.int .i64 x) ∧ W.cell? ⟨b, off + 1, none⟩ = some (.int .i64 y))) := fun W hW => ⟨(bat hW b _ hbb).trans x0, (bat hW b _ hbb).trans x1⟩
    clear hb2 hr2 hcl hat x0 x1 t0 t1
    go_upto_region 2 with (fail)
    refine wp_region_ord 8 [(0, true), (1, true), (2, true), (3, true), (4, true), (5, true), (6, true), (7, false)] (fun W => W.cell? ⟨b, off, none⟩ = some (.int .i64 x) ∧ W.cell? ⟨b, off + 1, none⟩ = some (.int .i64 y)) (by kernel_rfl) (by kernel_rfl) (HS2.out _ (below_drew1 _)) (fun hHeld => ?_)
    refine wpOrd_read (v := ?_) rfl (fun _ _ _ h => h) ?_ ?_
    rotate_left
    · (intro W hSW; (try dsimp only at hSW); (go_simp <;> with_reducible rfl))
    (try simp only [Act.put, List.setIfInBounds_toArray, List.set_cons_zero, List.set_cons_succ])
    refine wpOrd_read (v := ?_) rfl (fun _ _ _ h => h) ?_ ?_
    rotate_left
    · (intro W hSW; (try dsimp only at hSW); (go_simp <;> with_reducible rfl))
    (try simp only [Act.put, List.setIfInBounds_toArray, List.set_cons_zero, List.set_cons_succ])
    refine wpOrd_read (v := ?_) rfl (fun _ _ _ h => h) ?_ ?_
    rotate_left
    · (intro W hSW; (try dsimp only at hSW); (go_simp <;> with_reducible rfl))
    (try simp only [Act.put, List.setIfInBounds_toArray, List.set_cons_zero, List.set_cons_succ])
    refine wpOrd_read (v := ?_) rfl (fun _ _ _ h => h) ?_ ?_
    rotate_left
    · (intro W hSW; (try dsimp only at hSW); (go_simp <;> with_reducible rfl))
    (try simp only [Act.put, List.setIfInBounds_toArray, List.set_cons_zero, List.set_cons_succ])
    refine wpOrd_read (v := ?_) rfl (fun _ _ _ h => h) ?_ ?_
    rotate_left
    · (intro W hSW; (try dsimp only at hSW); (go_simp <;> with_reducible rfl))
    (try simp only [Act.put, List.setIfInBounds_toArray, List.set_cons_zero, List.set_cons_succ])
    refine wpOrd_read (v := ?_) rfl (fun _ _ _ h => h) ?_ ?_
    rotate_left
    · (intro W hSW; (try dsimp only at hSW); (go_simp <;> with_reducible rfl))
    (try simp only [Act.put, List.setIfInBounds_toArray, List.set_cons_zero, List.set_cons_succ])
    refine wpOrd_read (v := ?_) rfl (fun _ _ _ h => h) ?_ ?_
    rotate_left
    · (intro W hSW; (try dsimp only at hSW); (go_simp <;> with_reducible rfl))
    (try simp only [Act.put, List.setIfInBounds_toArray, List.set_cons_zero, List.set_cons_succ])
    have HBD := Lib.hid (HBX.out.trans ((below_drew1 w2).mono HBX.out.size))
    have HSD := Lib.hid (HS2.out _ (below_drew1 w2))
    have hzd : w2.heap.size ≤ w2.drew.heap.size := Nat.le_refl _
    generalize w2.drew = w4 at *
    refine wpOrd_step rfl (fun K hK => ?_)
    go_simp
    refine hK.out _ _ (⟨(bat (below_alloc w4 _) b _ (by omega)).trans HSD.out.1, (bat (below_alloc w4 _) b _ (by omega)).trans HSD.out.2⟩) ?_
    clear hK K
    (try simp only [Act.put, List.setIfInBounds_toArray, List.set_cons_zero, List.set_cons_succ])
    refine wpOrd_nil ?_
    simp only [List.drop_succ_cons, List.drop_zero]
    go_upto_region 3 with (fail)
    obtain ⟨W5, hW5, b5, z5, k5⟩ := boxes1 w4 #[.int .i64 x, .int .i64 y] 34
    rw [hW5]
    clear hW5
    have HB5 := Lib.hid (HBD.out.trans (b5.mono HBD.out.size))
    have K5 := Lib.hid k5
    have zb5 := HBD.out.size
    clear b5 k5
    obtain ⟨t0, t1⟩ := HD.out _ HB5.out
    have gz := bkF (bkB K0.out HB5.out (by omega))
    have q0 := bkC (v := .int .i64 x) K5.out 0 rfl
    have q1 := bkC (v := .int .i64 y) K5.out 1 rfl
    have BF := Lib.hid (HH.out _ HB5.out)
    go_wp2
    refine bodyPost_ret (v := .tuple #[.agg #[.int .i64 0, .int .i64 0], .bool false]) (by simp [results, Tryd.results36, go_sem, *]) rfl ?_
    exact ⟨by rw [HE.out]; rfl, (bset (bset BF.out (by omega) 0 _) (by omega) 1 _)⟩
  | some vs =>
    have hv2 : vs = [x, y] := by unfold numsR at hxy; rw [hr] at hxy; exact hxy
    subst hv2
    have hnb : numsB (bl s) 2 = true := by unfold numsB; rw [hr]; rfl
    rw [hnb] at HR
    by_cases hp : pointB ⟨x, y⟩ = true
    · have HE : Hid (pointR (bl s) = some ⟨x, y⟩) := by show _ = _; unfold pointR; rw [hr]; exact if_pos hp
      have htx : ofL (pointText ⟨x, y⟩) = s := ofL_eq.2 (pointText_of hr hp)
      rw [htx] at HPT
      have hq : (s.toList == s.toList) = true := beq_iff_eq.2 rfl
      have hqn : (s.toList != s.toList) = false := by unfold bne; rw [hq]; rfl
      clear hr hnb hxy hp htx
      go_enter Tryd.func36, Tryd.ntmps36
      go_upto_region 1 with (fail)
      rw [HW0.out]
      obtain ⟨t0, t1⟩ := HD.out _ HB.out
      go_wp2_with fail
      refine (HR.out _ HB.out).mono ?_
      rintro e w2 ⟨a, c, rfl, hb2, hr2⟩
      obtain ⟨_, _, e1, _, _, hcl⟩ := Rd.ints hr2
      injection e1 with e1 _ e3
      subst e1 e3
      obtain ⟨b, off, ea, hbb, hat⟩ := hcl (by simp)
      subst ea
      have x0 := hat 0 (by simp)
      have x1 := hat 1 (by simp)
      simp only [List.getElem_cons_zero, List.getElem_cons_succ, Nat.add_zero] at x0 x1
      have HBX := Lib.hid (HB.out.trans (hb2.mono HB.out.size))
      have HS2 : Hid (∀ W, Below w2.heap.size w2 W → (W.cell? ⟨b, off, none⟩ = some (.int .i64 x) ∧ W.cell? ⟨b, off + 1, none⟩ = some (.int .i64 y))) := fun W hW => ⟨(bat hW b _ hbb).trans x0, (bat hW b _ hbb).trans x1⟩
      clear hb2 hr2 hcl hat x0 x1 t0 t1
      go_upto_region 2 with (fail)
      refine wp_region_ord 8 [(0, true), (1, true), (2, true), (3, true), (4, true), (5, true), (6, true), (7, false)] (fun W => W.cell? ⟨b, off, none⟩ = some (.int .i64 x) ∧ W.cell? ⟨b, off + 1, none⟩ = some (.int .i64 y)) (by kernel_rfl) (by kernel_rfl) (HS2.out _ (below_drew1 _)) (fun hHeld => ?_)
      refine wpOrd_read (v := ?_) rfl (fun _ _ _ h => h) ?_ ?_
      rotate_left
      · (intro W hSW; (try dsimp only at hSW); (go_simp <;> with_reducible rfl))
      (try simp only [Act.put, List.setIfInBounds_toArray, List.set_cons_zero, List.set_cons_succ])
      refine wpOrd_read (v := ?_) rfl (fun _ _ _ h => h) ?_ ?_
      rotate_left
      · (intro W hSW; (try dsimp only at hSW); (go_simp <;> with_reducible rfl))
      (try simp only [Act.put, List.setIfInBounds_toArray, List.set_cons_zero, List.set_cons_succ])
      refine wpOrd_read (v := ?_) rfl (fun _ _ _ h => h) ?_ ?_
      rotate_left
      · (intro W hSW; (try dsimp only at hSW); (go_simp <;> with_reducible rfl))
      (try simp only [Act.put, List.setIfInBounds_toArray, List.set_cons_zero, List.set_cons_succ])
      refine wpOrd_read (v := ?_) rfl (fun _ _ _ h => h) ?_ ?_
      rotate_left
      · (intro W hSW; (try dsimp only at hSW); (go_simp <;> with_reducible rfl))
      (try simp only [Act.put, List.setIfInBounds_toArray, List.set_cons_zero, List.set_cons_succ])
      refine wpOrd_read (v := ?_) rfl (fun _ _ _ h => h) ?_ ?_
      rotate_left
      · (intro W hSW; (try dsimp only at hSW); (go_simp <;> with_reducible rfl))
      (try simp only [Act.put, List.setIfInBounds_toArray, List.set_cons_zero, List.set_cons_succ])
      refine wpOrd_read (v := ?_) rfl (fun _ _ _ h => h) ?_ ?_
      rotate_left
      · (intro W hSW; (try dsimp only at hSW); (go_simp <;> with_reducible rfl))
      (try simp only [Act.put, List.setIfInBounds_toArray, List.set_cons_zero, List.set_cons_succ])
      refine wpOrd_read (v := ?_) rfl (fun _ _ _ h => h) ?_ ?_
      rotate_left
      · (intro W hSW; (try dsimp only at hSW); (go_simp <;> with_reducible rfl))
      (try simp only [Act.put, List.setIfInBounds_toArray, List.set_cons_zero, List.set_cons_succ])
      have HBD := Lib.hid (HBX.out.trans ((below_drew1 w2).mono HBX.out.size))
      have HSD := Lib.hid (HS2.out _ (below_drew1 w2))
      have hzd : w2.heap.size ≤ w2.drew.heap.size := Nat.le_refl _
      generalize w2.drew = w4 at *
      refine wpOrd_step rfl (fun K hK => ?_)
      go_simp
      refine hK.out _ _ (⟨(bat (below_alloc w4 _) b _ (by omega)).trans HSD.out.1, (bat (below_alloc w4 _) b _ (by omega)).trans HSD.out.2⟩) ?_
      clear hK K
      (try simp only [Act.put, List.setIfInBounds_toArray, List.set_cons_zero, List.set_cons_succ])
      refine wpOrd_nil ?_
      simp only [List.drop_succ_cons, List.drop_zero]
      go_upto_region 3 with (fail)
      obtain ⟨W5, hW5, b5, z5, k5⟩ := boxes1 w4 #[.int .i64 x, .int .i64 y] 34
      rw [hW5]
      clear hW5
      have HB5 := Lib.hid (HBD.out.trans (b5.mono HBD.out.size))
      have K5 := Lib.hid k5
      have zb5 := HBD.out.size
      clear b5 k5
      obtain ⟨t0, t1⟩ := HD.out _ HB5.out
      have gz := bkF (bkB K0.out HB5.out (by omega))
      have q0 := bkC (v := .int .i64 x) K5.out 0 rfl
      have q1 := bkC (v := .int .i64 y) K5.out 1 rfl
      go_wp2_with (go_at_call 61; with_reducible refine (HPT.out _ HB5.out).mono ?_; rintro e w6 ⟨rfl, hb6⟩; clear t0 t1 gz q0 q1; have HB6 := Lib.hid (HB5.out.trans (hb6.mono HB5.out.size)); have K6 := Lib.hid (bkB K5.out hb6 (by omega)); clear hb6; obtain ⟨t0, t1⟩ := HD.out _ HB6.out; have gz := bkF (bkB K0.out HB6.out (by omega)); have q0 := bkC (v := .int .i64 x) K6.out 0 rfl; have q1 := bkC (v := .int .i64 y) K6.out 1 rfl; have BF := Lib.hid (HH.out _ HB6.out))
      refine bodyPost_ret (v := .tuple #[.agg #[.int .i64 x, .int .i64 y], .bool true]) (by simp [results, Tryd.results36, go_sem, *]) rfl ?_
      exact ⟨by rw [HE.out]; rfl, (bset (bset BF.out (by omega) 0 _) (by omega) 1 _)⟩
    · have HE : Hid (pointR (bl s) = none) := by show _ = _; unfold pointR; rw [hr]; exact if_neg hp
      have hne : eqS (ofL (pointText ⟨x, y⟩)) s = false := by
        rw [Bool.eq_false_iff]
        intro e
        have e2 := eqS_iff.1 e
        unfold pointText at e2
        rw [if_neg hp] at e2
        have : bl s = [] := by rw [← e2, bl_ofL]
        rw [this, readM_ne] at hr
        cases hr
      generalize ofL (pointText ⟨x, y⟩) = tx at *
      have hq : (tx.toList == s.toList) = false := hne
      have hqn : (tx.toList != s.toList) = true := by unfold bne; rw [hq]; rfl
      clear hr hnb hxy hp hne
      go_enter Tryd.func36, Tryd.ntmps36
      go_upto_region 1 with (fail)
      rw [HW0.out]
      obtain ⟨t0, t1⟩ := HD.out _ HB.out
      go_wp2_with fail
      refine (HR.out _ HB.out).mono ?_
      rintro e w2 ⟨a, c, rfl, hb2, hr2⟩
      obtain ⟨_, _, e1, _, _, hcl⟩ := Rd.ints hr2
      injection e1 with e1 _ e3
      subst e1 e3
      obtain ⟨b, off, ea, hbb, hat⟩ := hcl (by simp)
      subst ea
      have x0 := hat 0 (by simp)
      have x1 := hat 1 (by simp)
      simp only [List.getElem_cons_zero, List.getElem_cons_succ, Nat.add_zero] at x0 x1
      have HBX := Lib.hid (HB.out.trans (hb2.mono HB.out.size))
      have HS2 : Hid (∀ W, Below w2.heap.size w2 W → (W.cell? ⟨b, off, none⟩ = some (.int .i64 x) ∧ W.cell? ⟨b, off + 1, none⟩ = some (.int .i64 y))) := fun W hW => ⟨(bat hW b _ hbb).trans x0, (bat hW b _ hbb).trans x1⟩
      clear hb2 hr2 hcl hat x0 x1 t0 t1
      go_upto_region 2 with (fail)
      refine wp_region_ord 8 [(0, true), (1, true), (2, true), (3, true), (4, true), (5, true), (6, true), (7, false)] (fun W => W.cell? ⟨b, off, none⟩ = some (.int .i64 x) ∧ W.cell? ⟨b, off + 1, none⟩ = some (.int .i64 y)) (by kernel_rfl) (by kernel_rfl) (HS2.out _ (below_drew1 _)) (fun hHeld => ?_)
      refine wpOrd_read (v := ?_) rfl (fun _ _ _ h => h) ?_ ?_
      rotate_left
      · (intro W hSW; (try dsimp only at hSW); (go_simp <;> with_reducible rfl))
      (try simp only [Act.put, List.setIfInBounds_toArray, List.set_cons_zero, List.set_cons_succ])
      refine wpOrd_read (v := ?_) rfl (fun _ _ _ h => h) ?_ ?_
      rotate_left
      · (intro W hSW; (try dsimp only at hSW); (go_simp <;> with_reducible rfl))
      (try simp only [Act.put, List.setIfInBounds_toArray, List.set_cons_zero, List.set_cons_succ])
      refine wpOrd_read (v := ?_) rfl (fun _ _ _ h => h) ?_ ?_
      rotate_left
      · (intro W hSW; (try dsimp only at hSW); (go_simp <;> with_reducible rfl))
      (try simp only [Act.put, List.setIfInBounds_toArray, List.set_cons_zero, List.set_cons_succ])
      refine wpOrd_read (v := ?_) rfl (fun _ _ _ h => h) ?_ ?_
      rotate_left
      · (intro W hSW; (try dsimp only at hSW); (go_simp <;> with_reducible rfl))
      (try simp only [Act.put, List.setIfInBounds_toArray, List.set_cons_zero, List.set_cons_succ])
      refine wpOrd_read (v := ?_) rfl (fun _ _ _ h => h) ?_ ?_
      rotate_left
      · (intro W hSW; (try dsimp only at hSW); (go_simp <;> with_reducible rfl))
      (try simp only [Act.put, List.setIfInBounds_toArray, List.set_cons_zero, List.set_cons_succ])
      refine wpOrd_read (v := ?_) rfl (fun _ _ _ h => h) ?_ ?_
      rotate_left
      · (intro W hSW; (try dsimp only at hSW); (go_simp <;> with_reducible rfl))
      (try simp only [Act.put, List.setIfInBounds_toArray, List.set_cons_zero, List.set_cons_succ])
      refine wpOrd_read (v := ?_) rfl (fun _ _ _ h => h) ?_ ?_
      rotate_left
      · (intro W hSW; (try dsimp only at hSW); (go_simp <;> with_reducible rfl))
      (try simp only [Act.put, List.setIfInBounds_toArray, List.set_cons_zero, List.set_cons_succ])
      have HBD := Lib.hid (HBX.out.trans ((below_drew1 w2).mono HBX.out.size))
      have HSD := Lib.hid (HS2.out _ (below_drew1 w2))
      have hzd : w2.heap.size ≤ w2.drew.heap.size := Nat.le_refl _
      generalize w2.drew = w4 at *
      refine wpOrd_step rfl (fun K hK => ?_)
      go_simp
      refine hK.out _ _ (⟨(bat (below_alloc w4 _) b _ (by omega)).trans HSD.out.1, (bat (below_alloc w4 _) b _ (by omega)).trans HSD.out.2⟩) ?_
      clear hK K
      (try simp only [Act.put, List.setIfInBounds_toArray, List.set_cons_zero, List.set_cons_succ])
      refine wpOrd_nil ?_
      simp only [List.drop_succ_cons, List.drop_zero]
      go_upto_region 3 with (fail)
      obtain ⟨W5, hW5, b5, z5, k5⟩ := boxes1 w4 #[.int .i64 x, .int .i64 y] 34
      rw [hW5]
      clear hW5
      have HB5 := Lib.hid (HBD.out.trans (b5.mono HBD.out.size))
      have K5 := Lib.hid k5
      have zb5 := HBD.out.size
      clear b5 k5
      obtain ⟨t0, t1⟩ := HD.out _ HB5.out
      have gz := bkF (bkB K0.out HB5.out (by omega))
      have q0 := bkC (v := .int .i64 x) K5.out 0 rfl
      have q1 := bkC (v := .int .i64 y) K5.out 1 rfl
      go_wp2_with (go_at_call 61; with_reducible refine (HPT.out _ HB5.out).mono ?_; rintro e w6 ⟨rfl, hb6⟩; clear t0 t1 gz q0 q1; have HB6 := Lib.hid (HB5.out.trans (hb6.mono HB5.out.size)); have K6 := Lib.hid (bkB K5.out hb6 (by omega)); clear hb6; obtain ⟨t0, t1⟩ := HD.out _ HB6.out; have gz := bkF (bkB K0.out HB6.out (by omega)); have q0 := bkC (v := .int .i64 x) K6.out 0 rfl; have q1 := bkC (v := .int .i64 y) K6.out 1 rfl; have BF := Lib.hid (HH.out _ HB6.out))
      refine bodyPost_ret (v := .tuple #[.agg #[.int .i64 0, .int .i64 0], .bool false]) (by simp [results, Tryd.results36, go_sem, *]) rfl ?_
      exact ⟨by rw [HE.out]; rfl, (bset (bset BF.out (by omega) 0 _) (by omega) 1 _)⟩
set_option maxHeartbeats 8000000 in
set_option maxRecDepth 100000 in
theorem l03Read_any (s : ByteArray) (hs : s.size ≤ 1048576) (w : World) : Calls Tryd.prog 34 #[.string s] w fun e w' => e = .returned (.tuple #[.agg #[.int .i64 ((pointS (bl s)).getD ⟨0, 0⟩).x, .int .i64 ((pointS (bl s)).getD ⟨0, 0⟩).y], .bool (pointS (bl s)).isSome]) ∧ Below w.heap.size w w' := by
  obtain ⟨W0, hW0, b0, z0, k0⟩ := boxes1 w #[.int .i64 0, .int .i64 0] 34
  have HW0 := Lib.hid hW0
  clear hW0
  have B0 := Lib.hid b0
  clear b0
  have K0 := Lib.hid k0
  clear k0
  have HD : Hid (∀ W : World, Below W0.heap.size W0 W → (W.cell? ⟨w.heap.size, 0, none⟩ = some (.int .i64 0) ∧ W.cell? ⟨w.heap.size, 1, none⟩ = some (.int .i64 0))) := fun W hW => ⟨bkC (bkB K0.out hW (by omega)) 0 rfl, bkC (bkB K0.out hW (by omega)) 1 rfl⟩
  have HB : Hid (Below W0.heap.size W0 W0) := Below.refl _ _
  have HH : Hid (∀ W : World, Below W0.heap.size W0 W → Below w.heap.size w W) := fun W hW => B0.out.trans (hW.mono (by omega))
  have HSP : Hid (∀ W, Calls Tryd.prog 21 #[.string s, .int .u8 44] W fun e w' => ∃ a cc, e = .returned (.slice a (wordsB 44 s).length cc) ∧ Below W.heap.size W w' ∧ Rd w'.heap.size w' (strsT (wordsB 44 s)) (.slice a (wordsB 44 s).length cc)) := fun W => l01Split_any s 44 44 rfl hs W
  have hsz : ∀ p ∈ wordsB 44 s, p.size ≤ 1048576 := fun p hp => Nat.le_trans (words_size _ _ _ hp) hs
  have hwl : (wordsB 44 s).length = (splitC 44 (bl s)).length := List.length_map _
  by_cases h2 : (splitC 44 (bl s)).length = 2
  case neg =>
    have HE : Hid (pointS (bl s) = none) := by
      show _ = _
      unfold pointS
      split
      · rename_i a b e; rw [e] at h2; exact absurd rfl h2
      · rfl
    rw [← hwl] at h2
    generalize wordsB 44 s = ws at *
    have hq : ((ws.length : Int) != 2) = true := by rw [bne_iff_ne]; omega
    have hq2 : ((ws.length : Int) == 2) = false := by rw [beq_eq_false_iff_ne]; omega
    clear hwl h2 hsz
    go_enter Tryd.func34, Tryd.ntmps34
    go_upto_region 1 with (fail)
    rw [HW0.out]
    obtain ⟨t0, t1⟩ := HD.out _ HB.out
    go_wp2_with (go_at_call 21; with_reducible refine (HSP.out _).mono ?_; rintro e w2 ⟨a, c, rfl, hb2, hr2⟩; clear hr2; have HB2 := Lib.hid (HB.out.trans (hb2.mono HB.out.size)); clear hb2 t0 t1; obtain ⟨t0, t1⟩ := HD.out _ HB2.out; have gz := bkF (bkB K0.out HB2.out (by omega)); have BF := Lib.hid (HH.out _ HB2.out))
    refine bodyPost_ret (v := .tuple #[.agg #[.int .i64 0, .int .i64 0], .bool false]) (by simp [results, Tryd.results34, go_sem, *]) rfl ?_
    exact ⟨by rw [HE.out]; rfl, (bset (bset BF.out (by omega) 0 _) (by omega) 1 _)⟩
  obtain ⟨a, b, hab⟩ : ∃ a b, splitC 44 (bl s) = [a, b] := by
    match h : splitC 44 (bl s), h2 with
    | [a, b], _ => exact ⟨a, b, rfl⟩
  have hwd : wordsB 44 s = [ofL a, ofL b] := words_of _ _ _ hab
  rw [hwd] at HSP hsz
  have hsa : (ofL a).size ≤ 1099511627776 := by have := hsz (ofL a) (by simp); omega
  have hsb : (ofL b).size ≤ 1099511627776 := by have := hsz (ofL b) (by simp); omega
  have HNA : Hid (∀ W, Calls Tryd.prog 22 #[.string (ofL a)] W fun e w' => e = .returned (.tuple #[.int .i64 (numV a), .bool (numB a)]) ∧ W = w') := fun W => by
    have := l01Number_any (ofL a) hsa W
    rw [bl_ofL] at this
    exact this
  have HNB : Hid (∀ W, Calls Tryd.prog 22 #[.string (ofL b)] W fun e w' => e = .returned (.tuple #[.int .i64 (numV b), .bool (numB b)]) ∧ W = w') := fun W => by
    have := l01Number_any (ofL b) hsb W
    rw [bl_ofL] at this
    exact this
  have HV : Hid (∀ W, Calls Tryd.prog 60 #[.agg #[.int .i64 (numV a), .int .i64 (numV b)]] W fun e w' => e = .returned (.bool (pointB ⟨numV a, numV b⟩)) ∧ Below W.heap.size W w') := fun W => l03Ok_any ⟨numV a, numV b⟩ W
  have HE : Hid (pointS (bl s) = if numB a = true ∧ numB b = true ∧ pointB ⟨numV a, numV b⟩ = true then some ⟨numV a, numV b⟩ else none) := by
    show _ = _
    unfold pointS
    rw [hab]
    unfold numB numV
    cases ha : num a with
    | none => simp [ha]
    | some x =>
      cases hb : num b with
      | none => simp [ha, hb]
      | some y => simp [ha, hb]
  clear hwd hsz hsa hsb hwl h2
  generalize ofL a = sa at *
  generalize ofL b = sb at *
  generalize numV a = x at *
  generalize numV b = y at *
  generalize numB a = na at *
  generalize numB b = nb at *
  clear hab hs
  cases na with
  | false =>
    go_enter Tryd.func34, Tryd.ntmps34
    go_upto_region 1 with (fail)
    rw [HW0.out]
    obtain ⟨t0, t1⟩ := HD.out _ HB.out
    go_wp2_with fail
    refine (HSP.out _).mono ?_
    rintro e w2 ⟨a1, c1, rfl, hb2, hr2⟩
    obtain ⟨_, _, e1, _, _, hcl⟩ := Rd.strs hr2
    injection e1 with e1 _ e3
    subst e1 e3
    obtain ⟨b1, off, ea, hbb, hat⟩ := hcl (by simp)
    subst ea
    have x0 := hat 0 (by simp)
    have x1 := hat 1 (by simp)
    simp only [List.getElem_cons_zero, List.getElem_cons_succ, Nat.add_zero] at x0 x1
    have HB2 := Lib.hid (HB.out.trans (hb2.mono HB.out.size))
    clear hb2 hr2 hcl hat t0 t1
    go_upto_region 7 with (first | (go_at_call 22; with_reducible refine (HNA.out _).mono ?_; rintro e w1 ⟨rfl, rfl⟩) | (go_at_call 22; with_reducible refine (HNB.out _).mono ?_; rintro e w1 ⟨rfl, rfl⟩))
    obtain ⟨W5, hW5, b5, z5, k5⟩ := boxes1 w2 #[.int .i64 x, .int .i64 y] 34
    rw [hW5]
    clear hW5 x0 x1
    have HB5 := Lib.hid (HB2.out.trans (b5.mono HB2.out.size))
    have K5 := Lib.hid k5
    have zb5 := HB2.out.size
    clear b5 k5
    obtain ⟨t0, t1⟩ := HD.out _ HB5.out
    have gz := bkF (bkB K0.out HB5.out (by omega))
    have q0 := bkC (v := .int .i64 x) K5.out 0 rfl
    have q1 := bkC (v := .int .i64 y) K5.out 1 rfl
    have BF := Lib.hid (HH.out _ HB5.out)
    go_wp2_with fail
    refine bodyPost_ret (v := .tuple #[.agg #[.int .i64 0, .int .i64 0], .bool false]) (by simp [results, Tryd.results34, go_sem, *]) rfl ?_
    exact ⟨by rw [HE.out]; rfl, (bset (bset BF.out (by omega) 0 _) (by omega) 1 _)⟩
  | true =>
    cases nb with
    | false =>
      go_enter Tryd.func34, Tryd.ntmps34
      go_upto_region 1 with (fail)
      rw [HW0.out]
      obtain ⟨t0, t1⟩ := HD.out _ HB.out
      go_wp2_with fail
      refine (HSP.out _).mono ?_
      rintro e w2 ⟨a1, c1, rfl, hb2, hr2⟩
      obtain ⟨_, _, e1, _, _, hcl⟩ := Rd.strs hr2
      injection e1 with e1 _ e3
      subst e1 e3
      obtain ⟨b1, off, ea, hbb, hat⟩ := hcl (by simp)
      subst ea
      have x0 := hat 0 (by simp)
      have x1 := hat 1 (by simp)
      simp only [List.getElem_cons_zero, List.getElem_cons_succ, Nat.add_zero] at x0 x1
      have HB2 := Lib.hid (HB.out.trans (hb2.mono HB.out.size))
      clear hb2 hr2 hcl hat t0 t1
      go_upto_region 7 with (first | (go_at_call 22; with_reducible refine (HNA.out _).mono ?_; rintro e w1 ⟨rfl, rfl⟩) | (go_at_call 22; with_reducible refine (HNB.out _).mono ?_; rintro e w1 ⟨rfl, rfl⟩))
      obtain ⟨W5, hW5, b5, z5, k5⟩ := boxes1 w2 #[.int .i64 x, .int .i64 y] 34
      rw [hW5]
      clear hW5 x0 x1
      have HB5 := Lib.hid (HB2.out.trans (b5.mono HB2.out.size))
      have K5 := Lib.hid k5
      have zb5 := HB2.out.size
      clear b5 k5
      obtain ⟨t0, t1⟩ := HD.out _ HB5.out
      have gz := bkF (bkB K0.out HB5.out (by omega))
      have q0 := bkC (v := .int .i64 x) K5.out 0 rfl
      have q1 := bkC (v := .int .i64 y) K5.out 1 rfl
      have BF := Lib.hid (HH.out _ HB5.out)
      go_wp2_with fail
      refine bodyPost_ret (v := .tuple #[.agg #[.int .i64 0, .int .i64 0], .bool false]) (by simp [results, Tryd.results34, go_sem, *]) rfl ?_
      exact ⟨by rw [HE.out]; rfl, (bset (bset BF.out (by omega) 0 _) (by omega) 1 _)⟩
    | true =>
      cases hp : pointB ⟨x, y⟩ with
      | false =>
        rw [hp] at HV HE
        clear hp
        go_enter Tryd.func34, Tryd.ntmps34
        go_upto_region 1 with (fail)
        rw [HW0.out]
        obtain ⟨t0, t1⟩ := HD.out _ HB.out
        go_wp2_with fail
        refine (HSP.out _).mono ?_
        rintro e w2 ⟨a1, c1, rfl, hb2, hr2⟩
        obtain ⟨_, _, e1, _, _, hcl⟩ := Rd.strs hr2
        injection e1 with e1 _ e3
        subst e1 e3
        obtain ⟨b1, off, ea, hbb, hat⟩ := hcl (by simp)
        subst ea
        have x0 := hat 0 (by simp)
        have x1 := hat 1 (by simp)
        simp only [List.getElem_cons_zero, List.getElem_cons_succ, Nat.add_zero] at x0 x1
        have HB2 := Lib.hid (HB.out.trans (hb2.mono HB.out.size))
        clear hb2 hr2 hcl hat t0 t1
        go_upto_region 7 with (first | (go_at_call 22; with_reducible refine (HNA.out _).mono ?_; rintro e w1 ⟨rfl, rfl⟩) | (go_at_call 22; with_reducible refine (HNB.out _).mono ?_; rintro e w1 ⟨rfl, rfl⟩))
        obtain ⟨W5, hW5, b5, z5, k5⟩ := boxes1 w2 #[.int .i64 x, .int .i64 y] 34
        rw [hW5]
        clear hW5 x0 x1
        have HB5 := Lib.hid (HB2.out.trans (b5.mono HB2.out.size))
        have K5 := Lib.hid k5
        have zb5 := HB2.out.size
        clear b5 k5
        obtain ⟨t0, t1⟩ := HD.out _ HB5.out
        have gz := bkF (bkB K0.out HB5.out (by omega))
        have q0 := bkC (v := .int .i64 x) K5.out 0 rfl
        have q1 := bkC (v := .int .i64 y) K5.out 1 rfl
        have BF := Lib.hid (HH.out _ HB5.out)
        go_wp2_with (go_at_call 60; with_reducible refine (HV.out _).mono ?_; rintro e w6 ⟨rfl, hb6⟩; clear t0 t1 gz q0 q1 BF; have HB6 := Lib.hid (HB5.out.trans (hb6.mono HB5.out.size)); have K6 := Lib.hid (bkB K5.out hb6 (by omega)); clear hb6; obtain ⟨t0, t1⟩ := HD.out _ HB6.out; have gz := bkF (bkB K0.out HB6.out (by omega)); have q0 := bkC (v := .int .i64 x) K6.out 0 rfl; have q1 := bkC (v := .int .i64 y) K6.out 1 rfl; have BF := Lib.hid (HH.out _ HB6.out))
        refine bodyPost_ret (v := .tuple #[.agg #[.int .i64 0, .int .i64 0], .bool false]) (by simp [results, Tryd.results34, go_sem, *]) rfl ?_
        exact ⟨by rw [HE.out]; rfl, (bset (bset BF.out (by omega) 0 _) (by omega) 1 _)⟩
      | true =>
        rw [hp] at HV HE
        clear hp
        go_enter Tryd.func34, Tryd.ntmps34
        go_upto_region 1 with (fail)
        rw [HW0.out]
        obtain ⟨t0, t1⟩ := HD.out _ HB.out
        go_wp2_with fail
        refine (HSP.out _).mono ?_
        rintro e w2 ⟨a1, c1, rfl, hb2, hr2⟩
        obtain ⟨_, _, e1, _, _, hcl⟩ := Rd.strs hr2
        injection e1 with e1 _ e3
        subst e1 e3
        obtain ⟨b1, off, ea, hbb, hat⟩ := hcl (by simp)
        subst ea
        have x0 := hat 0 (by simp)
        have x1 := hat 1 (by simp)
        simp only [List.getElem_cons_zero, List.getElem_cons_succ, Nat.add_zero] at x0 x1
        have HB2 := Lib.hid (HB.out.trans (hb2.mono HB.out.size))
        clear hb2 hr2 hcl hat t0 t1
        go_upto_region 7 with (first | (go_at_call 22; with_reducible refine (HNA.out _).mono ?_; rintro e w1 ⟨rfl, rfl⟩) | (go_at_call 22; with_reducible refine (HNB.out _).mono ?_; rintro e w1 ⟨rfl, rfl⟩))
        obtain ⟨W5, hW5, b5, z5, k5⟩ := boxes1 w2 #[.int .i64 x, .int .i64 y] 34
        rw [hW5]
        clear hW5 x0 x1
        have HB5 := Lib.hid (HB2.out.trans (b5.mono HB2.out.size))
        have K5 := Lib.hid k5
        have zb5 := HB2.out.size
        clear b5 k5
        obtain ⟨t0, t1⟩ := HD.out _ HB5.out
        have gz := bkF (bkB K0.out HB5.out (by omega))
        have q0 := bkC (v := .int .i64 x) K5.out 0 rfl
        have q1 := bkC (v := .int .i64 y) K5.out 1 rfl
        have BF := Lib.hid (HH.out _ HB5.out)
        go_wp2_with (go_at_call 60; with_reducible refine (HV.out _).mono ?_; rintro e w6 ⟨rfl, hb6⟩; clear t0 t1 gz q0 q1 BF; have HB6 := Lib.hid (HB5.out.trans (hb6.mono HB5.out.size)); have K6 := Lib.hid (bkB K5.out hb6 (by omega)); clear hb6; obtain ⟨t0, t1⟩ := HD.out _ HB6.out; have gz := bkF (bkB K0.out HB6.out (by omega)); have q0 := bkC (v := .int .i64 x) K6.out 0 rfl; have q1 := bkC (v := .int .i64 y) K6.out 1 rfl; have BF := Lib.hid (HH.out _ HB6.out))
        refine bodyPost_ret (v := .tuple #[.agg #[.int .i64 x, .int .i64 y], .bool true]) (by simp [results, Tryd.results34, go_sem, *]) rfl ?_
        exact ⟨by rw [HE.out]; rfl, (bset (bset BF.out (by omega) 0 _) (by omega) 1 _)⟩
end Go.Proofs.YtjgolknofmnppaaDoor
