/- Loading a register from its lines, as a plain function. Plain lemmas. -/
import Derived.Test.YtjkpadfolkniaaaGreatDoorLr6
import Derived.Test.YtjkpadfolkniaaaGreatDoorReg10
import Derived.Test.YtjkpadfolkniaaaGreatDoorReg12
import Derived.Test.YtjkpadfolkniaaaGreatDoorReg2
namespace Go.Proofs.YtjkpadfolkniaaaGreatDoor
section
open Go.RowKit
set_option linter.unusedVariables false
set_option linter.unusedSimpArgs false

def zReg : DRegister := ⟨[], []⟩
theorem chgR_zero {l : List UInt8} (h : (chgR l).2 = 0) : changeB (chgR l).1 = true ∧ (chgR l).1.key.size ≤ l.length ∧ (chgR l).1.old_.size ≤ l.length ∧ (chgR l).1.new_.size ≤ l.length := by
  cases hc : lastCut 32 l with
  | none => rw [chgR_none hc] at h; cases h
  | some p =>
    obtain ⟨body, sum⟩ := p
    by_cases hs : sum = Go.Lib.itoa (crcL body 65535)
    case neg => rw [chgR_sum hc hs] at h; cases h
    by_cases hl : (splitN 32 4 body).length = 5
    case neg => rw [chgR_len hc hs hl] at h; cases h
    obtain ⟨p0, p1, p2, p3, t, hab⟩ : ∃ p0 p1 p2 p3 t, splitN 32 4 body = [p0, p1, p2, p3, t] := by
      match h : splitN 32 4 body, hl with
      | [p0, p1, p2, p3, t], _ => exact ⟨p0, p1, p2, p3, t, rfl⟩
    have hf := chgR_five hc hs hab
    cases h0 : num p0 with
    | none => rw [h0] at hf; rw [hf] at h; cases h
    | some d =>
      cases h2 : num p2 with
      | none => rw [h0, h2] at hf; rw [hf] at h; cases h
      | some n =>
        cases h3 : num p3 with
        | none => rw [h0, h2, h3] at hf; rw [hf] at h; cases h
        | some m =>
          rw [h0, h2, h3] at hf
          simp only at hf
          by_cases hb : 0 ≤ n ∧ n + m = (t.length : Int) ∧ n ≤ (t.length : Int) ∧ changeB (chgOf d p1 t n.toNat) = true
          · rw [if_pos hb] at hf
            rw [hf]
            have hbl := cut_lt hc
            have hm1 : p1.length ≤ body.length := splitN_size 32 body 4 p1 (by rw [hab]; simp)
            have hmt : t.length ≤ body.length := splitN_size 32 body 4 t (by rw [hab]; simp)
            refine ⟨hb.2.2.2, Nat.le_trans hm1 hbl, ?_, ?_⟩
            · show (t.take n.toNat).length ≤ _
              rw [List.length_take]; omega
            · show (t.drop n.toNat).length ≤ _
              rw [List.length_drop]; omega
          · rw [if_neg hb] at hf; rw [hf] at h; cases h
/-- one line more -/
def stepR (r : DRegister) (l : List UInt8) : DRegister × Int := if (chgR l).2 = 0 then (if eqS (valOf r.records (chgR l).1.key) (chgR l).1.old_ = true then (if laterB r (chgR l).1.day = true then (zReg, 7) else withR r (chgR l).1) else (zReg, 6)) else (zReg, (chgR l).2)
def loadK (ls : List (List UInt8)) : Nat → DRegister × Int × Int
  | 0 => (zReg, 0, 0)
  | k + 1 => if (loadK ls k).2.2 = 0 then (if (stepR (loadK ls k).1 ((ls[k]?).getD [])).2 = 0 then ((stepR (loadK ls k).1 ((ls[k]?).getD [])).1, 0, 0) else (zReg, (k : Int) + 1, (stepR (loadK ls k).1 ((ls[k]?).getD [])).2)) else loadK ls k
def loadR (s : List UInt8) : DRegister × Int × Int := if (linesR s).2 = 0 then loadK (linesR s).1 (linesR s).1.length else (zReg, 0, (linesR s).2)
section
variable {ls : List (List UInt8)} {k : Nat} {r r' : DRegister} {c : Int} {l : List UInt8}
theorem loadK_go (h : loadK ls k = (r, 0, 0)) (hk : k < ls.length) (hs : stepR r ls[k] = (r', 0)) : loadK ls (k + 1) = (r', 0, 0) := by
  rw [loadK, h]
  simp only
  rw [if_pos trivial, List.getElem?_eq_getElem hk, Option.getD_some, hs]
  exact if_pos rfl
theorem loadK_stay {n : Int} (h : loadK ls k = (r, n, c)) (hc : c ≠ 0) : ∀ j, loadK ls (k + j) = (r, n, c) := by
  intro j
  induction j with
  | zero => exact h
  | succ j ih =>
    rw [← Nat.add_assoc, loadK, ih]
    exact if_neg hc
theorem loadK_stop (h : loadK ls k = (r, 0, 0)) (hk : k < ls.length) (hs : (stepR r ls[k]).2 = c) (hc : c ≠ 0) : loadK ls ls.length = (zReg, (k : Int) + 1, c) := by
  have h1 : loadK ls (k + 1) = (zReg, (k : Int) + 1, c) := by
    rw [loadK, h]
    simp only
    rw [if_pos trivial, List.getElem?_eq_getElem hk, Option.getD_some, hs]
    exact if_neg hc
  have := loadK_stay h1 hc (ls.length - (k + 1))
  rwa [show k + 1 + (ls.length - (k + 1)) = ls.length by omega] at this
theorem stepR_code (h : (chgR l).2 ≠ 0) : stepR r l = (zReg, (chgR l).2) := by unfold stepR; rw [if_neg h]
theorem stepR_val (h : (chgR l).2 = 0) (h1 : eqS (valOf r.records (chgR l).1.key) (chgR l).1.old_ = false) : stepR r l = (zReg, 6) := by unfold stepR; rw [if_pos h, if_neg (by rw [h1]; simp)]
theorem stepR_later (h : (chgR l).2 = 0) (h1 : eqS (valOf r.records (chgR l).1.key) (chgR l).1.old_ = true) (h2 : laterB r (chgR l).1.day = true) : stepR r l = (zReg, 7) := by unfold stepR; rw [if_pos h, if_pos h1, if_pos h2]
theorem stepR_with (h : (chgR l).2 = 0) (h1 : eqS (valOf r.records (chgR l).1.key) (chgR l).1.old_ = true) (h2 : laterB r (chgR l).1.day = false) : stepR r l = withR r (chgR l).1 := by unfold stepR; rw [if_pos h, if_pos h1, if_neg (by rw [h2]; simp)]
theorem withR_zero (c : DChange) : withR r c = (wReg r c, 0) ∧ (putL r.records c.key c.new_).length ≤ 32 ∧ r.changes.length + 1 ≤ 48 ∨ withR r c = (zReg, 5) := by
  unfold withR
  by_cases h1 : 32 < (putL r.records c.key c.new_).length
  · rw [if_pos h1]; exact Or.inr rfl
  · rw [if_neg h1]
    by_cases h2 : 48 < r.changes.length + 1
    · rw [if_pos h2]; exact Or.inr rfl
    · rw [if_neg h2]; exact Or.inl ⟨rfl, by omega, by omega⟩
theorem stepR_zero {x : DRegister} (hs : stepR r l = (x, 0)) : (chgR l).2 = 0 ∧ x = wReg r (chgR l).1 ∧ (putL r.records (chgR l).1.key (chgR l).1.new_).length ≤ 32 ∧ r.changes.length + 1 ≤ 48 := by
  unfold stepR at hs
  by_cases h : (chgR l).2 = 0
  case neg => rw [if_neg h] at hs; exact absurd (Prod.mk.inj hs).2 h
  rw [if_pos h] at hs
  by_cases h1 : eqS (valOf r.records (chgR l).1.key) (chgR l).1.old_ = true
  case neg => rw [if_neg h1] at hs; exact absurd (Prod.mk.inj hs).2 (by decide)
  rw [if_pos h1] at hs
  by_cases h2 : laterB r (chgR l).1.day = true
  case pos => rw [if_pos h2] at hs; exact absurd (Prod.mk.inj hs).2 (by decide)
  rw [if_neg h2] at hs
  rcases withR_zero (r := r) (chgR l).1 with ⟨e, e1, e2⟩ | e
  · rw [e] at hs
    exact ⟨h, (Prod.mk.inj hs).1.symm, e1, e2⟩
  · rw [e] at hs; exact absurd (Prod.mk.inj hs).2 (by decide)
/-- what a register that is being loaded is like -/
structure LoadOk (m : Nat) (k : Nat) (r : DRegister) : Prop where
  rise : Rise r.records
  rcs : r.records.length ≤ 32
  chg : r.changes.length ≤ 48
  few : r.changes.length ≤ k
  recs : ∀ x ∈ r.records, x.key.size ≤ m ∧ x.value.size ≤ m
  chgs : ∀ x ∈ r.changes, x.key.size ≤ m ∧ x.old_.size ≤ m ∧ x.new_.size ≤ m ∧ I64 x.day
theorem loadK_ok {m : Nat} (hm : ∀ l ∈ ls, l.length ≤ m) (k : Nat) (hk : k ≤ ls.length) : LoadOk m k (loadK ls k).1 := by
  have hz : ∀ k, LoadOk m k zReg := fun k => ⟨List.Pairwise.nil, by simp [zReg], by simp [zReg], by simp [zReg], fun x h => by simp [zReg] at h, fun x h => by simp [zReg] at h⟩
  induction k with
  | zero => exact hz 0
  | succ k ih =>
    have ih := ih (by omega)
    rw [loadK]
    by_cases h0 : (loadK ls k).2.2 = 0
    · rw [if_pos h0, List.getElem?_eq_getElem (show k < ls.length by omega), Option.getD_some]
      by_cases h1 : (stepR (loadK ls k).1 (ls[k]'(by omega))).2 = 0
      · rw [if_pos h1]
        have hl := hm _ (List.getElem_mem (show k < ls.length by omega))
        generalize (ls[k]'(by omega)) = l at *
        generalize (loadK ls k).1 = r at *
        obtain ⟨e1, e2, e3, e4⟩ := stepR_zero (show stepR r l = ((stepR r l).1, 0) by rw [← h1])
        rw [e2]
        have hc := chgR_zero e1
        generalize (chgR l).1 = c at *
        refine ⟨putL_rise ih.rise _ _, e3, by show (r.changes ++ [c]).length ≤ 48; simp; omega, by show (r.changes ++ [c]).length ≤ k + 1; have := ih.few; simp; omega, fun x hx => ?_, fun x hx => ?_⟩
        · rcases putL_mem hx with h | ⟨rfl, _⟩
          · exact ih.recs x h
          · exact ⟨by simp only; omega, by simp only; omega⟩
        · rcases List.mem_append.1 hx with h | h
          · exact ih.chgs x h
          · obtain rfl : x = c := by simpa using h
            have hd := hc.1
            unfold changeB dayB inB at hd
            simp only [Bool.and_eq_true, decide_eq_true_eq] at hd
            exact ⟨by omega, by omega, by omega, by constructor <;> omega⟩
      · rw [if_neg h1]; exact hz _
    · rw [if_neg h0]; exact ⟨ih.rise, ih.rcs, ih.chg, Nat.le_succ_of_le ih.few, ih.recs, ih.chgs⟩
theorem found {c : DChange} (hc : changeB c = true) (hv : eqS (valOf r.records c.key) c.old_ = true) : eqS c.new_ emptyS = true → ∃ (i : Nat) (hi : i < r.records.length), eqS r.records[i].key c.key = true := by
  intro hn
  by_cases h : r.records.any (fun x => eqS x.key c.key) = true
  · obtain ⟨x, hx, e⟩ := List.any_eq_true.1 h
    obtain ⟨i, hi, rfl⟩ := List.mem_iff_getElem.1 hx
    exact ⟨i, hi, e⟩
  · exfalso
    rw [valOf_none (Bool.eq_false_iff.2 h)] at hv
    unfold changeB at hc
    simp only [Bool.and_eq_true] at hc
    have h1 := hc.2.2.2.2
    rw [← eqS_iff.1 hv, eqS_iff.1 hn, eqS_refl] at h1
    cases h1
theorem add_with {c : DChange} (hc : changeB c = true) (hv : eqS (valOf r.records c.key) c.old_ = true) (hl : laterB r c.day = false) (h48 : r.changes.length ≤ 48) : addR r c.key c.new_ c.day = withR r c := by
  have hne : eqS c.new_ c.old_ = false := by
    unfold changeB at hc
    simp only [Bool.and_eq_true] at hc
    have h1 := hc.2.2.2.2
    rw [Bool.not_eq_true', eqS_false] at h1
    rw [eqS_false]
    exact fun e => h1 e.symm
  have hvo := eqS_iff.1 hv
  have h2 : (eqS c.new_ emptyS && eqS (valOf r.records c.key) emptyS) = false := by
    rw [hvo, Bool.eq_false_iff]
    intro e
    rw [Bool.and_eq_true] at e
    rw [eqS_iff.1 e.1, eqS_iff.1 e.2, eqS_refl] at hne
    cases hne
  unfold withR
  by_cases h4 : 32 < (putL r.records c.key c.new_).length
  · rw [addR_4 hl h2 (by rw [hvo]; exact hne) h4, if_pos h4]
  · rw [if_neg h4]
    by_cases h5 : r.changes.length = 48
    · rw [addR_5 hl h2 (by rw [hvo]; exact hne) h4 h5, if_pos (by omega)]
    · rw [addR_6 hl h2 (by rw [hvo]; exact hne) h4 h5, if_neg (by omega), hvo]
      rfl
end
/-- a loaded register and two codes -/
def LoadP (x : DRegister × Int × Int) (w : World) (e : Ending) (w' : World) : Prop :=
  ∃ a0 c0 a1 c1 fp, e = .returned (.tuple #[.agg #[.slice a0 x.1.records.length c0, .slice a1 x.1.changes.length c1], .int .i64 x.2.1, .int .i64 x.2.2]) ∧ Below w.heap.size w w' ∧ OwnV w' x.1.tr [.slice a0 x.1.records.length c0, .slice a1 x.1.changes.length c1] fp ∧ In w.heap.size w'.heap.size fp
theorem LoadP.zero {x : DRegister × Int × Int} {w w' : World} {e : Ending} {n c : Int} (hx : x = (zReg, n, c)) (he : e = .returned (.tuple #[.agg #[.slice none 0 0, .slice none 0 0], .int .i64 n, .int .i64 c])) (hb : Below w.heap.size w w') : LoadP x w e w' := by
  subst hx
  exact ⟨none, 0, none, 0, [], he, hb, ownV_nilReg w', In.nil⟩
end
section
open Go.RowKit
set_option linter.unusedVariables false
set_option linter.unusedSimpArgs false

set_option maxHeartbeats 8000000 in
set_option maxRecDepth 100000 in
theorem iLoadRegister_any (s : ByteArray) (hs : s.size ≤ 1048576) (w : World) (L : LibW w) : Calls Tryz.prog 11 #[.string s] w (LoadP (loadR (bl s)) w) := by
  obtain ⟨W0, hW0, b0, z0, k0⟩ := boxes1 w #[.slice none 0 0, .slice none 0 0] 31
  have HW0 := Lib.hid hW0
  have HB0 := Lib.hid b0
  have K0 := Lib.hid k0
  clear hW0 b0 k0
  have HLN : Hid (∀ W, LibW W → Calls Tryz.prog 17 #[.string s] W (LinesP (linesR (bl s)) W)) := fun W hW => registerLines_any s hs W hW
  have hlen := linesR_len (bl s)
  have hmem : ∀ l ∈ (linesR (bl s)).1, l.length ≤ 1048576 := fun l hl => by have := linesR_mem hl; rw [bl_len] at this; omega
  have HL := Lib.hid L
  clear L
  have HE0 : Hid (loadR (bl s) = if (linesR (bl s)).2 = 0 then loadK (linesR (bl s)).1 (linesR (bl s)).1.length else (zReg, 0, (linesR (bl s)).2)) := rfl
  by_cases h0 : (linesR (bl s)).2 = 0
  case neg =>
    have HE : Hid (loadR (bl s) = (zReg, 0, (linesR (bl s)).2)) := by show _ = _; rw [HE0.out, if_neg h0]
    clear HE0
    generalize loadR (bl s) = O at *
    generalize linesR (bl s) = o at *
    obtain ⟨ls, c⟩ := o
    simp only at *
    have hq : (c != 0) = true := by rw [bne_iff_ne]; exact h0
    have hq2 : (c == 0) = false := by rw [beq_eq_false_iff_ne]; exact h0
    clear h0 hlen hmem
    go_enter Tryz.func11, Tryz.ntmps11
    go_upto_region 1 with (fail)
    rw [HW0.out]
    go_wp2_with (fail)
    refine (HLN.out _ (HL.out.mono HB0.out)).mono ?_
    rintro e w1 ⟨a1, c1, rfl, hb1, hr1⟩
    clear hr1
    have zw0 := hb1.size
    have BF := Lib.hid (HB0.out.trans (hb1.mono (by omega)))
    have K1 := bkB K0.out hb1 (by omega)
    have t0 := bkC (v := .slice none 0 0) K1 0 rfl
    have t1 := bkC (v := .slice none 0 0) K1 1 rfl
    have gz := bkF K1
    clear K1 hb1
    go_wp2
    refine bodyPost_ret (v := .tuple #[.agg #[.slice none 0 0, .slice none 0 0], .int .i64 0, .int .i64 c]) (by simp [results, Tryz.results11, go_sem, *]) rfl ?_
    exact LoadP.zero HE.out rfl (bset (bset BF.out (by omega) 0 _) (by omega) 1 _)
  have HE1 : Hid (loadR (bl s) = loadK (linesR (bl s)).1 (linesR (bl s)).1.length) := by show _ = _; rw [HE0.out, if_pos h0]
  have ho : linesR (bl s) = ((linesR (bl s)).1, 0) := by rw [← h0]
  rw [ho] at HLN
  clear HE0
  generalize loadR (bl s) = O at *
  generalize (linesR (bl s)).1 = ls at *
  clear h0 ho hs
  have HOK : Hid (∀ (k : Nat) (r : DRegister), k ≤ ls.length → loadK ls k = (r, 0, 0) → LoadOk 1048576 k r) := fun k r hk e => by
    have := loadK_ok hmem k hk
    rw [e] at this
    exact this
  have HRC : Hid (∀ l, l ∈ ls → ∀ W : World, LibW W → Calls Tryz.prog 18 #[.string (ofL l)] W fun e w' => e = .returned (.tuple #[.agg #[.int .i64 (chgR l).1.day, .string (chgR l).1.key, .string (chgR l).1.old_, .string (chgR l).1.new_], .int .i64 (chgR l).2]) ∧ Below W.heap.size W w') := fun l hl W hW => by
    have hll := hmem l hl
    exact readChange_any (ofL l) (by show l.length ≤ _; omega) W hW
  clear hmem
  have hln : (ls.length : Int) ≤ 48 := by omega
  go_enter Tryz.func11, Tryz.ntmps11
  go_upto_region 1 with (fail)
  rw [HW0.out]
  go_wp2_with (fail)
  refine (HLN.out _ (HL.out.mono HB0.out)).mono ?_
  rintro e w1 ⟨a1, c1, rfl, hb1, hr1⟩
  have HB1 := Lib.hid (HB0.out.trans (hb1.mono (by omega)))
  have z1 := hb1.size
  have K1 := Lib.hid (bkB K0.out hb1 (by omega))
  have hr2 : Rd w1.heap.size w1 (strsT (ls.map ofL)) (.slice a1 ls.length c1) := hr1
  obtain ⟨a2, c2, e1, _, _, hcl⟩ := Rd.strs hr2
  have e1' : Value.slice a1 ls.length c1 = Value.slice a2 (ls.map ofL).length c2 := e1
  injection e1' with e1 e2 e3
  subst e1 e3
  have HCL := Lib.hid hcl
  clear hb1 hr1 hr2 hcl e2 HLN
  go_upto_region 5 with (fail)
  obtain ⟨W2, hW2, b2, z2, k2⟩ := boxes1 w1 #[.slice none 0 0, .slice none 0 0] 31
  rw [hW2]
  clear hW2
  have HB2 := Lib.hid b2
  have K2 := Lib.hid k2
  clear b2 k2
  go_wp2
  go_loopw [23] (fun i wr => ∃ (k : Nat) (r : DRegister) (a0 : Option Addr) (c0 : Nat) (a1 : Option Addr) (c1 : Nat) (fp : List Nat), k ≤ ls.length ∧ i = .int .i64 k ∧ loadK ls k = (r, 0, 0) ∧ Below w1.heap.size w1 wr ∧ w1.heap.size + 1 ≤ wr.heap.size ∧ wr.heap[w1.heap.size]? = some (.cells #[.slice a0 r.records.length c0, .slice a1 r.changes.length c1] 31 (0, 0)) ∧ OwnV wr r.tr [.slice a0 r.records.length c0, .slice a1 r.changes.length c1] fp ∧ In (w1.heap.size + 1) wr.heap.size fp) (fun i wr => ls.length - (intOf i).toNat)
  case atStart => exact ⟨0, zReg, none, 0, none, 0, [], Nat.zero_le _, rfl, rfl, HB2.out, z2, K2.out, ownV_nilReg _, In.nil⟩
  case round =>
    obtain ⟨k, r, a0, c0, a3, c3, fp, hk, rfl, hlk, hb, zr, hkk, how, hin⟩ := hrel
    have HB := Lib.hid hb
    have KR := Lib.hid hkk
    have HO := Lib.hid how
    have HI := Lib.hid hin
    have HK := Lib.hid hlk
    have hok := HOK.out k r hk hlk
    have hn0 := hok.rcs
    have hn1 := hok.chg
    have HRI := Lib.hid hok.rise
    clear hb hkk how hin hlk hok
    have KB := Lib.hid (bkB K1.out HB.out (by omega))
    have HBW := Lib.hid (HB1.out.trans (HB.out.mono (by omega)))
    obtain ⟨g0, g1, eg, o0, og, _⟩ := OwnV.uncons HO.out
    obtain ⟨g2, g3, eg2, o1, _, _⟩ := OwnV.uncons og
    have HIn := HI.out
    rw [eg, eg2] at HIn
    have R0 := Lib.hid (o0.rd (lo := w1.heap.size + 1) (hi := wr.heap.size) (fun x hx => HIn x (by simp [hx])))
    have R1 := Lib.hid (o1.rd (lo := w1.heap.size + 1) (hi := wr.heap.size) (fun x hx => HIn x (by simp [hx])))
    clear o0 og o1 HIn eg eg2
    by_cases hlt : k < ls.length
    case neg =>
      obtain rfl : k = ls.length := by omega
      have HE : Hid (O = (r, 0, 0)) := by show _ = _; rw [HE1.out, HK.out]
      have BF := Lib.hid HBW.out
      have t0 := bkC (v := .slice none 0 0) KB.out 0 rfl
      have t1 := bkC (v := .slice none 0 0) KB.out 1 rfl
      have gz := bkF KB.out
      have r0 := bkC (v := .slice a0 r.records.length c0) KR.out 0 rfl
      have r1 := bkC (v := .slice a3 r.changes.length c3) KR.out 1 rfl
      go_wp2
      refine bodyPost_ret (v := .tuple #[.agg #[.slice a0 r.records.length c0, .slice a3 r.changes.length c3], .int .i64 0, .int .i64 0]) (by simp [results, Tryz.results11, go_sem, *]) rfl ?_
      rw [HE.out]
      exact ⟨a0, c0, a3, c3, fp, rfl, bset (bset BF.out (by omega) 0 _) (by omega) 1 _, (HO.out.setFar (fun h => by have := (HI.out _ h).1; dsimp only at this; omega) _).setFar (fun h => by have := (HI.out _ h).1; dsimp only at this; omega) _, HI.out.mono (by omega) (by simp)⟩
    obtain ⟨b, off, ea, hbb, hat⟩ := HCL.out (by rw [List.length_map]; omega)
    subst ea
    have hc := hat k (by rw [List.length_map]; exact hlt)
    rw [List.getElem_map] at hc
    rw [← bat HB.out b _ hbb] at hc
    clear hat
    have HST : Hid (∀ c, (stepR r ls[k]).2 = c → c ≠ 0 → O = (zReg, (k : Int) + 1, c)) := fun c h1 h2 => by rw [HE1.out]; exact loadK_stop HK.out hlt h1 h2
    have HGO : Hid (∀ r', stepR r ls[k] = (r', 0) → loadK ls (k + 1) = (r', 0, 0)) := fun r' h => loadK_go HK.out hlt h
    have HRK := Lib.hid (HRC.out ls[k] (List.getElem_mem hlt) wr (HL.out.mono HBW.out))
    generalize ls[k] = l at *
    have hki : (k : Int) + 1 ≤ 48 := by omega
    go_upto_region 10 with (go_at_call 18; with_reducible refine HRK.out.mono ?_; rintro e w2 ⟨rfl, hb2⟩)
    obtain ⟨W3, hW3, b3, z3, k3⟩ := boxes1 w2 #[.int .i64 (chgR l).1.day, .string (chgR l).1.key, .string (chgR l).1.old_, .string (chgR l).1.new_] 40
    rw [hW3]
    clear hW3
    have z2r := hb2.size
    have HBA := Lib.hid (hb2.trans (b3.mono z2r))
    have zA := HBA.out.size
    have K3 := Lib.hid k3
    clear hb2 b3 k3 hc HRK
    have K3B := Lib.hid (bkB KB.out HBA.out (by omega))
    have K3R := Lib.hid (bkB KR.out HBA.out (by omega))
    have HB3 := Lib.hid (HBW.out.trans (HBA.out.mono (by omega)))
    have HBX3 := Lib.hid (HB.out.trans (HBA.out.mono (by omega)))
    have R03 := Lib.hid ((R0.out.below HBA.out).mono zA)
    have R13 := Lib.hid ((R1.out.below HBA.out).mono zA)
    clear R0 R1 HBA KB KR
    by_cases hc0 : (chgR l).2 = 0
    case neg =>
      have hq : ((chgR l).2 != 0) = true := by rw [bne_iff_ne]; exact hc0
      have hq2 : ((chgR l).2 == 0) = false := by rw [beq_eq_false_iff_ne]; exact hc0
      have HE := Lib.hid (HST.out _ (by rw [stepR_code hc0]) hc0)
      clear hc0
      generalize (chgR l).2 = code at *
      have BF := Lib.hid HB3.out
      have t0 := bkC (v := .slice none 0 0) K3B.out 0 rfl
      have t1 := bkC (v := .slice none 0 0) K3B.out 1 rfl
      have gz := bkF K3B.out
      go_wp2
      refine bodyPost_ret (v := .tuple #[.agg #[.slice none 0 0, .slice none 0 0], .int .i64 ((k : Int) + 1), .int .i64 code]) (by simp [results, Tryz.results11, go_sem, *]) rfl ?_
      exact LoadP.zero HE.out rfl (bset (bset BF.out (by omega) 0 _) (by omega) 1 _)
    have hcz := chgR_zero hc0
    have hcb := Lib.hid hcz.1
    have HS1 : Hid (eqS (valOf r.records (chgR l).1.key) (chgR l).1.old_ = false → stepR r l = (zReg, 6)) := fun h => stepR_val hc0 h
    have HS2 : Hid (eqS (valOf r.records (chgR l).1.key) (chgR l).1.old_ = true → laterB r (chgR l).1.day = true → stepR r l = (zReg, 7)) := fun h h2 => stepR_later hc0 h h2
    have HS3 : Hid (eqS (valOf r.records (chgR l).1.key) (chgR l).1.old_ = true → laterB r (chgR l).1.day = false → stepR r l = withR r (chgR l).1) := fun h h2 => stepR_with hc0 h h2
    rw [hc0]
    clear hc0 hcz
    generalize (chgR l).1 = ch at *
    obtain ⟨day, key, old, new⟩ := ch
    simp only at *
    have q0 := bkC (v := .int .i64 day) K3.out 0 rfl
    have q1 := bkC (v := .string key) K3.out 1 rfl
    have q2 := bkC (v := .string old) K3.out 2 rfl
    have q3 := bkC (v := .string new) K3.out 3 rfl
    have r0 := bkC (v := .slice a0 r.records.length c0) K3R.out 0 rfl
    have r1 := bkC (v := .slice a3 r.changes.length c3) K3R.out 1 rfl
    have HVO : Hid (∀ X, Calls Tryz.prog 21 #[.slice a0 r.records.length c0, .string key] (over W3.heap.size W3 X) fun e w' => e = .returned (.string (valOf r.records key)) ∧ Below (over W3.heap.size W3 X).heap.size (over W3.heap.size W3 X) w') := fun X =>
      valueOf_any r.records key _ W3.heap.size _ (R03.out.below (over_below W3.heap.size W3 X)) (over_below W3.heap.size W3 X).size (by omega)
    have oW := fun (b : Nat) (h : b < W3.heap.size) => overC (w0 := W3) h
    have oR := oW w1.heap.size (by omega)
    have oC := oW w2.heap.size (by omega)
    have oB := oW w.heap.size (by omega)
    clear oW
    by_cases hv : eqS (valOf r.records key) old = true
    case neg =>
      have hvf : eqS (valOf r.records key) old = false := Bool.eq_false_iff.2 hv
      have HE := Lib.hid (HST.out 6 (by rw [HS1.out hvf]) (by decide))
      clear hv
      generalize valOf r.records key = vv at *
      have hqe : (vv.toList == old.toList) = false := hvf
      have hqn : (vv.toList != old.toList) = true := by unfold bne; rw [hqe]; rfl
      go_upto_region 11 with (fail)
      refine wp_region_over W3.heap.size W3 (Below.refl _ _) (by kernel_rfl) (by kernel_rfl) ?_
      repeat (go_big_quiet_step (first | (go_at_call 21; with_reducible exact over_left (Nat.le_refl _) (HVO.out _))))
      refine wpQuiet_nil ?_
      rintro _ ⟨X, rfl⟩
      have HBO := Lib.hid (over_below W3.heap.size W3 X)
      clear oR oC oB r0 r1 q0 q1 q2 q3 HVO
      generalize over W3.heap.size W3 X = w9 at *
      have zo := HBO.out.size
      have K9 := bkB K3B.out HBO.out (by omega)
      have BF := Lib.hid (HB3.out.trans (HBO.out.mono (by omega)))
      have t0 := bkC (v := .slice none 0 0) K9 0 rfl
      have t1 := bkC (v := .slice none 0 0) K9 1 rfl
      have gz := bkF K9
      clear K9
      go_wp2
      refine bodyPost_ret (v := .tuple #[.agg #[.slice none 0 0, .slice none 0 0], .int .i64 ((k : Int) + 1), .int .i64 6]) (by simp [results, Tryz.results11, go_sem, *]) rfl ?_
      exact LoadP.zero HE.out rfl (bset (bset BF.out (by omega) 0 _) (by omega) 1 _)
    have hqe : ((valOf r.records key).toList == old.toList) = true := hv
    have hqn : ((valOf r.records key).toList != old.toList) = false := by unfold bne; rw [hqe]; rfl
    go_upto_region 11 with (fail)
    refine wp_region_over W3.heap.size W3 (Below.refl _ _) (by kernel_rfl) (by kernel_rfl) ?_
    repeat (go_big_quiet_step (first | (go_at_call 21; with_reducible exact over_left (Nat.le_refl _) (HVO.out _))))
    refine wpQuiet_nil ?_
    rintro _ ⟨X, rfl⟩
    have HBO := Lib.hid (over_below W3.heap.size W3 X)
    clear oR oC oB r0 r1 q0 q1 q2 q3 HVO hqe hqn
    generalize over W3.heap.size W3 X = w9 at *
    have zo := HBO.out.size
    have K9B := Lib.hid (bkB K3B.out HBO.out (by omega))
    have K9R := Lib.hid (bkB K3R.out HBO.out (by omega))
    have K9C := Lib.hid (bkB K3.out HBO.out (by omega))
    have HB9 := Lib.hid (HB3.out.trans (HBO.out.mono (by omega)))
    have HBX9 := Lib.hid (HBX3.out.trans (HBO.out.mono (by omega)))
    have R09 := Lib.hid ((R03.out.below HBO.out).mono zo)
    have R19 := Lib.hid ((R13.out.below HBO.out).mono zo)
    clear K3B K3R K3 HB3 HBX3 R03 R13
    have q0 := bkC (v := .int .i64 day) K9C.out 0 rfl
    have q1 := bkC (v := .string key) K9C.out 1 rfl
    have q2 := bkC (v := .string old) K9C.out 2 rfl
    have q3 := bkC (v := .string new) K9C.out 3 rfl
    have r0 := bkC (v := .slice a0 r.records.length c0) K9R.out 0 rfl
    have r1 := bkC (v := .slice a3 r.changes.length c3) K9R.out 1 rfl
    have HLT : Hid (Calls Tryz.prog 22 #[.agg #[.slice a0 r.records.length c0, .slice a3 r.changes.length c3], .int .i64 day] w9 fun e w' => e = .returned (.bool (laterB r day)) ∧ Below w9.heap.size w9 w') := isLater_any r day _ _ w9.heap.size w9 R19.out (Nat.le_refl _) (by omega)
    have RELAY := fun (W : World) (hW : Below w9.heap.size w9 W) => (⟨bkB K9B.out hW (by omega), bkB K9R.out hW (by omega), bkB K9C.out hW (by omega), HB9.out.trans (hW.mono (by omega)), HBX9.out.trans (hW.mono (by omega)), (R09.out.below hW).mono hW.size, (R19.out.below hW).mono hW.size⟩ : _ ∧ _ ∧ _ ∧ _ ∧ _ ∧ _ ∧ _)
    have HRY := Lib.hid RELAY
    clear RELAY
    cases hl : laterB r day with
    | true =>
      have HE := Lib.hid (HST.out 7 (by rw [HS2.out hv hl]) (by decide))
      rw [hl] at HLT
      clear hl hv
      go_wp2_with (go_at_call 22; with_reducible refine HLT.out.mono ?_; rintro e w5 ⟨rfl, hb5⟩; clear q0 q1 q2 q3 r0 r1; have z5 := hb5.size; have BF := Lib.hid (HB9.out.trans (hb5.mono (by omega))); have K5 := Lib.hid (bkB K9B.out hb5 (by omega)); have t0 := bkC (v := .slice none 0 0) K5.out 0 rfl; have t1 := bkC (v := .slice none 0 0) K5.out 1 rfl; have gz := bkF K5.out; clear hb5)
      refine bodyPost_ret (v := .tuple #[.agg #[.slice none 0 0, .slice none 0 0], .int .i64 ((k : Int) + 1), .int .i64 7]) (by simp [results, Tryz.results11, go_sem, *]) rfl ?_
      exact LoadP.zero HE.out rfl (bset (bset BF.out (by omega) 0 _) (by omega) 1 _)
    | false =>
      have hstp := HS3.out hv hl
      rw [hl] at HLT
      have hfd := found hcb.out hv
      have HFD := Lib.hid hfd
      clear hl hv hfd
      go_upto_region 9 with (go_at_call 22; with_reducible refine HLT.out.mono ?_; rintro e w5 ⟨rfl, hb5⟩; have HB5 := Lib.hid hb5; clear hb5)
      clear q0 q1 q2 q3 r0 r1
      have z5 := HB5.out.size
      obtain ⟨k5b, k5r, k5c, hb5, hbx5, r05, r15⟩ := HRY.out _ HB5.out
      have q0 := bkC (v := .int .i64 day) k5c 0 rfl
      have q1 := bkC (v := .string key) k5c 1 rfl
      have q2 := bkC (v := .string old) k5c 2 rfl
      have q3 := bkC (v := .string new) k5c 3 rfl
      have r0 := bkC (v := .slice a0 r.records.length c0) k5r 0 rfl
      have r1 := bkC (v := .slice a3 r.changes.length c3) k5r 1 rfl
      have K5B := Lib.hid k5b
      have K5R := Lib.hid k5r
      have HBW5 := Lib.hid hb5
      have HBX5 := Lib.hid hbx5
      have HWI : Hid (Calls Tryz.prog 23 #[.agg #[.slice a0 r.records.length c0, .slice a3 r.changes.length c3], .agg #[.int .i64 day, .string key, .string old, .string new]] w5 (NewR (withR r ⟨day, key, old, new⟩) w5)) := with_any r ⟨day, key, old, new⟩ _ _ w5 r05 r15 (by omega) (by omega) HRI.out HFD.out
      clear k5b k5r k5c hb5 hbx5 r05 r15 HRY K9B K9R K9C R09 R19 HB9 HBX9 HLT
      rcases withR_zero (r := r) ⟨day, key, old, new⟩ with ⟨ewr, _, _⟩ | ewr
      case inr =>
        rw [ewr] at HWI
        have HE := Lib.hid (HST.out 5 (by rw [hstp, ewr]) (by decide))
        clear hstp ewr
        go_wp2_with (go_at_call 23; (with_reducible refine HWI.out.mono ?_); rintro e w6 ⟨a5, c5, a6, c6, fp6, rfl, hb6, ow6, in6⟩; clear q0 q1 q2 q3 r0 r1 ow6 in6; have z6 := hb6.size; have HB6 := Lib.hid (HBW5.out.trans (hb6.mono (by omega))); have K6B := Lib.hid (bkB K5B.out hb6 (by omega)); have K6R := Lib.hid (bkB K5R.out hb6 (by omega)); clear hb6; have r0 := bkC (v := .slice a0 r.records.length c0) K6R.out 0 rfl; have r1 := bkC (v := .slice a3 r.changes.length c3) K6R.out 1 rfl; have gr := bkF K6R.out; have t0 := bkC (v := .slice none 0 0) K6B.out 0 rfl; have t1 := bkC (v := .slice none 0 0) K6B.out 1 rfl; have gz := bkF K6B.out)
        refine bodyPost_ret (v := .tuple #[.agg #[.slice none 0 0, .slice none 0 0], .int .i64 ((k : Int) + 1), .int .i64 5]) (by simp [results, Tryz.results11, go_sem, *]) rfl ?_
        exact LoadP.zero HE.out rfl (bset (bset (bset (bset HB6.out (by omega) 0 _) (by omega) 1 _) (by omega) 0 _) (by omega) 1 _)
      · have HNX := Lib.hid (HGO.out _ (by rw [hstp, ewr]))
        rw [ewr] at HWI
        clear hstp ewr
        go_wp2_with (go_at_call 23; (with_reducible refine HWI.out.mono ?_); rintro e w6 ⟨a5, c5, a6, c6, fp6, rfl, hb6, ow6, in6⟩; clear q0 q1 q2 q3 r0 r1; have OW6 := Lib.hid ow6; have IN6 := Lib.hid in6; have z6 := hb6.size; have HBX6 := Lib.hid (HBX5.out.trans (hb6.mono (by omega))); have K6R := Lib.hid (bkB K5R.out hb6 (by omega)); clear hb6 ow6 in6; have r0 := bkC (v := .slice a0 r.records.length c0) K6R.out 0 rfl; have r1 := bkC (v := .slice a3 r.changes.length c3) K6R.out 1 rfl; have gr := bkF K6R.out)
        go_roundw
        case rel =>
          refine ⟨k + 1, wReg r ⟨day, key, old, new⟩, a5, c5, a6, c6, fp6, by omega, by go_num, HNX.out, bset (bset HBX6.out (Nat.le_refl _) 0 _) (Nat.le_refl _) 1 _, by simp; omega, ?_, (OW6.out.setFar (fun h => by have := (IN6.out _ h).1; dsimp only at this; omega) _).setFar (fun h => by have := (IN6.out _ h).1; dsimp only at this; omega) _, ?_⟩
          · have := bkS (bkS K6R.out 0 (.slice a5 (wReg r ⟨day, key, old, new⟩).records.length c5)) 1 (.slice a6 (wReg r ⟨day, key, old, new⟩).changes.length c6)
            simpa using this
          · simpa using IN6.out.mono (by omega) (Nat.le_refl _)
        case measure => simp [intOf]; omega
end
section
open Go.RowKit
set_option linter.unusedVariables false
set_option linter.unusedSimpArgs false

set_option maxHeartbeats 8000000 in
set_option maxRecDepth 100000 in
theorem sLoadRegister_any (s : ByteArray) (hs : s.size ≤ 1048576) (w : World) : Calls Tryz.prog 10 #[.string s] w (LoadP (loadR (bl s)) w) := by
  obtain ⟨W0, hW0, b0, z0, k0⟩ := boxes1 w #[.slice none 0 0, .slice none 0 0] 31
  have HW0 := Lib.hid hW0
  have HB0 := Lib.hid b0
  have K0 := Lib.hid k0
  clear hW0 b0 k0
  have HLN : Hid (∀ W, Calls Tryz.prog 15 #[.string s] W (LinesP (linesR (bl s)) W)) := fun W => l28Lines_any s hs W
  have hlen := linesR_len (bl s)
  have hmem : ∀ l ∈ (linesR (bl s)).1, l.length ≤ 1048576 := fun l hl => by have := linesR_mem hl; rw [bl_len] at this; omega
  have hnothing : True := trivial
  clear hnothing
  have HE0 : Hid (loadR (bl s) = if (linesR (bl s)).2 = 0 then loadK (linesR (bl s)).1 (linesR (bl s)).1.length else (zReg, 0, (linesR (bl s)).2)) := rfl
  by_cases h0 : (linesR (bl s)).2 = 0
  case neg =>
    have HE : Hid (loadR (bl s) = (zReg, 0, (linesR (bl s)).2)) := by show _ = _; rw [HE0.out, if_neg h0]
    clear HE0
    generalize loadR (bl s) = O at *
    generalize linesR (bl s) = o at *
    obtain ⟨ls, c⟩ := o
    simp only at *
    have hq : (c != 0) = true := by rw [bne_iff_ne]; exact h0
    have hq2 : (c == 0) = false := by rw [beq_eq_false_iff_ne]; exact h0
    clear h0 hlen hmem
    go_enter Tryz.func10, Tryz.ntmps10
    go_upto_region 1 with (fail)
    rw [HW0.out]
    go_wp2_with (fail)
    refine (HLN.out _).mono ?_
    rintro e w1 ⟨a1, c1, rfl, hb1, hr1⟩
    clear hr1
    have zw0 := hb1.size
    have BF := Lib.hid (HB0.out.trans (hb1.mono (by omega)))
    have K1 := bkB K0.out hb1 (by omega)
    have t0 := bkC (v := .slice none 0 0) K1 0 rfl
    have t1 := bkC (v := .slice none 0 0) K1 1 rfl
    have gz := bkF K1
    clear K1 hb1
    go_wp2
    refine bodyPost_ret (v := .tuple #[.agg #[.slice none 0 0, .slice none 0 0], .int .i64 0, .int .i64 c]) (by simp [results, Tryz.results10, go_sem, *]) rfl ?_
    exact LoadP.zero HE.out rfl (bset (bset BF.out (by omega) 0 _) (by omega) 1 _)
  have HE1 : Hid (loadR (bl s) = loadK (linesR (bl s)).1 (linesR (bl s)).1.length) := by show _ = _; rw [HE0.out, if_pos h0]
  have ho : linesR (bl s) = ((linesR (bl s)).1, 0) := by rw [← h0]
  rw [ho] at HLN
  clear HE0
  generalize loadR (bl s) = O at *
  generalize (linesR (bl s)).1 = ls at *
  clear h0 ho hs
  have HOK : Hid (∀ (k : Nat) (r : DRegister), k ≤ ls.length → loadK ls k = (r, 0, 0) → LoadOk 1048576 k r) := fun k r hk e => by
    have := loadK_ok hmem k hk
    rw [e] at this
    exact this
  have HRC : Hid (∀ l, l ∈ ls → ∀ W : World, Calls Tryz.prog 16 #[.string (ofL l)] W fun e w' => e = .returned (.tuple #[.agg #[.int .i64 (chgR l).1.day, .string (chgR l).1.key, .string (chgR l).1.old_, .string (chgR l).1.new_], .int .i64 (chgR l).2]) ∧ Below W.heap.size W w') := fun l hl W => by
    have hll := hmem l hl
    exact l28Read_any (ofL l) (by show l.length ≤ _; omega) W
  clear hmem
  have hln : (ls.length : Int) ≤ 48 := by omega
  go_enter Tryz.func10, Tryz.ntmps10
  go_upto_region 1 with (fail)
  rw [HW0.out]
  go_wp2_with (fail)
  refine (HLN.out _).mono ?_
  rintro e w1 ⟨a1, c1, rfl, hb1, hr1⟩
  have HB1 := Lib.hid (HB0.out.trans (hb1.mono (by omega)))
  have z1 := hb1.size
  have K1 := Lib.hid (bkB K0.out hb1 (by omega))
  have hr2 : Rd w1.heap.size w1 (strsT (ls.map ofL)) (.slice a1 ls.length c1) := hr1
  obtain ⟨a2, c2, e1, _, _, hcl⟩ := Rd.strs hr2
  have e1' : Value.slice a1 ls.length c1 = Value.slice a2 (ls.map ofL).length c2 := e1
  injection e1' with e1 e2 e3
  subst e1 e3
  have HCL := Lib.hid hcl
  clear hb1 hr1 hr2 hcl e2 HLN
  go_upto_region 5 with (fail)
  obtain ⟨W2, hW2, b2, z2, k2⟩ := boxes1 w1 #[.slice none 0 0, .slice none 0 0] 31
  rw [hW2]
  clear hW2
  have HB2 := Lib.hid b2
  have K2 := Lib.hid k2
  clear b2 k2
  go_wp2
  go_loopw [8] (fun i wr => ∃ (k : Nat) (r : DRegister) (a0 : Option Addr) (c0 : Nat) (a1 : Option Addr) (c1 : Nat) (fp : List Nat), k ≤ ls.length ∧ i = .int .i64 k ∧ loadK ls k = (r, 0, 0) ∧ Below w1.heap.size w1 wr ∧ w1.heap.size + 1 ≤ wr.heap.size ∧ wr.heap[w1.heap.size]? = some (.cells #[.slice a0 r.records.length c0, .slice a1 r.changes.length c1] 31 (0, 0)) ∧ OwnV wr r.tr [.slice a0 r.records.length c0, .slice a1 r.changes.length c1] fp ∧ In (w1.heap.size + 1) wr.heap.size fp) (fun i wr => ls.length - (intOf i).toNat)
  case atStart => exact ⟨0, zReg, none, 0, none, 0, [], Nat.zero_le _, rfl, rfl, HB2.out, z2, K2.out, ownV_nilReg _, In.nil⟩
  case round =>
    obtain ⟨k, r, a0, c0, a3, c3, fp, hk, rfl, hlk, hb, zr, hkk, how, hin⟩ := hrel
    have HB := Lib.hid hb
    have KR := Lib.hid hkk
    have HO := Lib.hid how
    have HI := Lib.hid hin
    have HK := Lib.hid hlk
    have hok := HOK.out k r hk hlk
    have hn0 := hok.rcs
    have hn1 := hok.chg
    have HRI := Lib.hid hok.rise
    clear hb hkk how hin hlk hok
    have KB := Lib.hid (bkB K1.out HB.out (by omega))
    have HBW := Lib.hid (HB1.out.trans (HB.out.mono (by omega)))
    obtain ⟨g0, g1, eg, o0, og, _⟩ := OwnV.uncons HO.out
    obtain ⟨g2, g3, eg2, o1, _, _⟩ := OwnV.uncons og
    have HIn := HI.out
    rw [eg, eg2] at HIn
    have R0 := Lib.hid (o0.rd (lo := w1.heap.size + 1) (hi := wr.heap.size) (fun x hx => HIn x (by simp [hx])))
    have R1 := Lib.hid (o1.rd (lo := w1.heap.size + 1) (hi := wr.heap.size) (fun x hx => HIn x (by simp [hx])))
    clear o0 og o1 HIn eg eg2
    by_cases hlt : k < ls.length
    case neg =>
      obtain rfl : k = ls.length := by omega
      have HE : Hid (O = (r, 0, 0)) := by show _ = _; rw [HE1.out, HK.out]
      have BF := Lib.hid HBW.out
      have t0 := bkC (v := .slice none 0 0) KB.out 0 rfl
      have t1 := bkC (v := .slice none 0 0) KB.out 1 rfl
      have gz := bkF KB.out
      have r0 := bkC (v := .slice a0 r.records.length c0) KR.out 0 rfl
      have r1 := bkC (v := .slice a3 r.changes.length c3) KR.out 1 rfl
      go_wp2
      refine bodyPost_ret (v := .tuple #[.agg #[.slice a0 r.records.length c0, .slice a3 r.changes.length c3], .int .i64 0, .int .i64 0]) (by simp [results, Tryz.results10, go_sem, *]) rfl ?_
      rw [HE.out]
      exact ⟨a0, c0, a3, c3, fp, rfl, bset (bset BF.out (by omega) 0 _) (by omega) 1 _, (HO.out.setFar (fun h => by have := (HI.out _ h).1; dsimp only at this; omega) _).setFar (fun h => by have := (HI.out _ h).1; dsimp only at this; omega) _, HI.out.mono (by omega) (by simp)⟩
    obtain ⟨b, off, ea, hbb, hat⟩ := HCL.out (by rw [List.length_map]; omega)
    subst ea
    have hc := hat k (by rw [List.length_map]; exact hlt)
    rw [List.getElem_map] at hc
    rw [← bat HB.out b _ hbb] at hc
    clear hat
    have HST : Hid (∀ c, (stepR r ls[k]).2 = c → c ≠ 0 → O = (zReg, (k : Int) + 1, c)) := fun c h1 h2 => by rw [HE1.out]; exact loadK_stop HK.out hlt h1 h2
    have HGO : Hid (∀ r', stepR r ls[k] = (r', 0) → loadK ls (k + 1) = (r', 0, 0)) := fun r' h => loadK_go HK.out hlt h
    have HRK := Lib.hid (HRC.out ls[k] (List.getElem_mem hlt) wr)
    generalize ls[k] = l at *
    have hki : (k : Int) + 1 ≤ 48 := by omega
    go_upto_region 9 with (go_at_call 16; with_reducible refine HRK.out.mono ?_; rintro e w2 ⟨rfl, hb2⟩)
    obtain ⟨W3, hW3, b3, z3, k3⟩ := boxes1 w2 #[.int .i64 (chgR l).1.day, .string (chgR l).1.key, .string (chgR l).1.old_, .string (chgR l).1.new_] 40
    rw [hW3]
    clear hW3
    have z2r := hb2.size
    have HBA := Lib.hid (hb2.trans (b3.mono z2r))
    have zA := HBA.out.size
    have K3 := Lib.hid k3
    clear hb2 b3 k3 hc HRK
    have K3B := Lib.hid (bkB KB.out HBA.out (by omega))
    have K3R := Lib.hid (bkB KR.out HBA.out (by omega))
    have HB3 := Lib.hid (HBW.out.trans (HBA.out.mono (by omega)))
    have HBX3 := Lib.hid (HB.out.trans (HBA.out.mono (by omega)))
    have R03 := Lib.hid ((R0.out.below HBA.out).mono zA)
    have R13 := Lib.hid ((R1.out.below HBA.out).mono zA)
    clear R0 R1 HBA KB KR
    by_cases hc0 : (chgR l).2 = 0
    case neg =>
      have hq : ((chgR l).2 != 0) = true := by rw [bne_iff_ne]; exact hc0
      have hq2 : ((chgR l).2 == 0) = false := by rw [beq_eq_false_iff_ne]; exact hc0
      have HE := Lib.hid (HST.out _ (by rw [stepR_code hc0]) hc0)
      clear hc0
      generalize (chgR l).2 = code at *
      have BF := Lib.hid HB3.out
      have t0 := bkC (v := .slice none 0 0) K3B.out 0 rfl
      have t1 := bkC (v := .slice none 0 0) K3B.out 1 rfl
      have gz := bkF K3B.out
      go_wp2
      refine bodyPost_ret (v := .tuple #[.agg #[.slice none 0 0, .slice none 0 0], .int .i64 ((k : Int) + 1), .int .i64 code]) (by simp [results, Tryz.results10, go_sem, *]) rfl ?_
      exact LoadP.zero HE.out rfl (bset (bset BF.out (by omega) 0 _) (by omega) 1 _)
    have hcz := chgR_zero hc0
    have hcb := Lib.hid hcz.1
    have HS1 : Hid (eqS (valOf r.records (chgR l).1.key) (chgR l).1.old_ = false → stepR r l = (zReg, 6)) := fun h => stepR_val hc0 h
    have HS2 : Hid (eqS (valOf r.records (chgR l).1.key) (chgR l).1.old_ = true → laterB r (chgR l).1.day = true → stepR r l = (zReg, 7)) := fun h h2 => stepR_later hc0 h h2
    have HS3 : Hid (eqS (valOf r.records (chgR l).1.key) (chgR l).1.old_ = true → laterB r (chgR l).1.day = false → stepR r l = withR r (chgR l).1) := fun h h2 => stepR_with hc0 h h2
    rw [hc0]
    clear hc0 hcz
    generalize (chgR l).1 = ch at *
    obtain ⟨day, key, old, new⟩ := ch
    simp only at *
    have q0 := bkC (v := .int .i64 day) K3.out 0 rfl
    have q1 := bkC (v := .string key) K3.out 1 rfl
    have q2 := bkC (v := .string old) K3.out 2 rfl
    have q3 := bkC (v := .string new) K3.out 3 rfl
    have r0 := bkC (v := .slice a0 r.records.length c0) K3R.out 0 rfl
    have r1 := bkC (v := .slice a3 r.changes.length c3) K3R.out 1 rfl
    have HVO : Hid (∀ W : World, W = W3.drew ∨ W = W3 → Calls Tryz.prog 19 #[.slice a0 r.records.length c0, .string key] W fun e w' => e = .returned (.string (valOf r.records key)) ∧ W = w') := fun W hW => by
      rcases hW with rfl | rfl
      · exact l28Get_any r.records key _ W3.heap.size _ (R03.out.below (below_drew1 W3)) (Nat.le_refl _) (by omega)
      · exact l28Get_any r.records key _ W.heap.size W R03.out (Nat.le_refl _) (by omega)
    have HVO2 : Hid (∀ X, Calls Tryz.prog 19 #[.slice a0 r.records.length c0, .string key] (over W3.heap.size W3 X) fun e w' => e = .returned (.string (valOf r.records key)) ∧ Below (over W3.heap.size W3 X).heap.size (over W3.heap.size W3 X) w') := fun X =>
      (l28Get_any r.records key _ W3.heap.size _ (R03.out.below (over_below W3.heap.size W3 X)) (over_below W3.heap.size W3 X).size (by omega)).mono fun e w' ⟨he, hw⟩ => ⟨he, hw ▸ Below.refl _ _⟩
    have oW := fun (b : Nat) (h : b < W3.heap.size) => overC (w0 := W3) h
    have oR := oW w1.heap.size (by omega)
    have oC := oW w2.heap.size (by omega)
    have oB := oW w.heap.size (by omega)
    clear oW HVO
    by_cases hv : eqS (valOf r.records key) old = true
    case neg =>
      have hvf : eqS (valOf r.records key) old = false := Bool.eq_false_iff.2 hv
      have HE := Lib.hid (HST.out 6 (by rw [HS1.out hvf]) (by decide))
      clear hv
      generalize valOf r.records key = vv at *
      have hqe : (vv.toList == old.toList) = false := hvf
      have hqn : (vv.toList != old.toList) = true := by unfold bne; rw [hqe]; rfl
      go_upto_region 11 with (fail)
      refine wp_region_over W3.heap.size W3 (Below.refl _ _) (by kernel_rfl) (by kernel_rfl) ?_
      repeat (go_big_quiet_step (first | (go_at_call 19; with_reducible exact over_left (Nat.le_refl _) (HVO2.out _))))
      refine wpQuiet_nil ?_
      rintro _ ⟨X, rfl⟩
      have HBO := Lib.hid (over_below W3.heap.size W3 X)
      clear oR oC oB r0 r1 q0 q1 q2 q3 HVO2
      generalize over W3.heap.size W3 X = w9 at *
      have zo := HBO.out.size
      have K9 := bkB K3B.out HBO.out (by omega)
      have BF := Lib.hid (HB3.out.trans (HBO.out.mono (by omega)))
      have t0 := bkC (v := .slice none 0 0) K9 0 rfl
      have t1 := bkC (v := .slice none 0 0) K9 1 rfl
      have gz := bkF K9
      clear K9
      go_wp2
      refine bodyPost_ret (v := .tuple #[.agg #[.slice none 0 0, .slice none 0 0], .int .i64 ((k : Int) + 1), .int .i64 6]) (by simp [results, Tryz.results10, go_sem, *]) rfl ?_
      exact LoadP.zero HE.out rfl (bset (bset BF.out (by omega) 0 _) (by omega) 1 _)
    have hqe : ((valOf r.records key).toList == old.toList) = true := hv
    have hqn : ((valOf r.records key).toList != old.toList) = false := by unfold bne; rw [hqe]; rfl
    go_upto_region 11 with (fail)
    refine wp_region_over W3.heap.size W3 (Below.refl _ _) (by kernel_rfl) (by kernel_rfl) ?_
    repeat (go_big_quiet_step (first | (go_at_call 19; with_reducible exact over_left (Nat.le_refl _) (HVO2.out _))))
    refine wpQuiet_nil ?_
    rintro _ ⟨X, rfl⟩
    have HBO := Lib.hid (over_below W3.heap.size W3 X)
    clear oR oC oB r0 r1 q0 q1 q2 q3 HVO2 hqe hqn
    generalize over W3.heap.size W3 X = w9 at *
    have zo := HBO.out.size
    have K9B := Lib.hid (bkB K3B.out HBO.out (by omega))
    have K9R := Lib.hid (bkB K3R.out HBO.out (by omega))
    have K9C := Lib.hid (bkB K3.out HBO.out (by omega))
    have HB9 := Lib.hid (HB3.out.trans (HBO.out.mono (by omega)))
    have HBX9 := Lib.hid (HBX3.out.trans (HBO.out.mono (by omega)))
    have R09 := Lib.hid ((R03.out.below HBO.out).mono zo)
    have R19 := Lib.hid ((R13.out.below HBO.out).mono zo)
    clear K3B K3R K3 HB3 HBX3 R03 R13
    have q0 := bkC (v := .int .i64 day) K9C.out 0 rfl
    have q1 := bkC (v := .string key) K9C.out 1 rfl
    have q2 := bkC (v := .string old) K9C.out 2 rfl
    have q3 := bkC (v := .string new) K9C.out 3 rfl
    have r0 := bkC (v := .slice a0 r.records.length c0) K9R.out 0 rfl
    have r1 := bkC (v := .slice a3 r.changes.length c3) K9R.out 1 rfl
    have HADD := Lib.hid (l28Add_any r key new day a0 c0 a3 c3 w1.heap.size w9 R09.out R19.out r0 r1 (by omega) (by omega) (by omega) HRI.out)
    have hcases : ∃ x cd, addR r key new day = (x, cd) ∧ (cd ≠ 0 ∧ x = zReg ∧ O = (zReg, (k : Int) + 1, cd) ∨ cd = 0 ∧ x = wReg r ⟨day, key, old, new⟩ ∧ loadK ls (k + 1) = (x, 0, 0)) := by
      cases hl : laterB r day with
      | true => exact ⟨zReg, 7, addR_1 hl, Or.inl ⟨by decide, rfl, HST.out 7 (by rw [HS2.out hv hl]) (by decide)⟩⟩
      | false =>
        have hstp := HS3.out hv hl
        have hadd := add_with hcb.out hv hl hn1
        rcases withR_zero (r := r) ⟨day, key, old, new⟩ with ⟨ewr, _, _⟩ | ewr
        · exact ⟨_, 0, hadd.trans ewr, Or.inr ⟨rfl, rfl, HGO.out _ (by rw [hstp, ewr])⟩⟩
        · exact ⟨zReg, 5, hadd.trans ewr, Or.inl ⟨by decide, rfl, HST.out 5 (by rw [hstp, ewr]) (by decide)⟩⟩
    obtain ⟨x, cd, hax, hcs⟩ := hcases
    rw [hax] at HADD
    clear hax hv
    go_upto_region 14 with (go_at_call 20; ((with_reducible refine HADD.out.mono ?_); rintro e w6 ⟨a5, c5, a6, c6, fp6, rfl, hb6, ow6, in6⟩))
    clear q0 q1 q2 q3 r0 r1
    obtain ⟨W7, hW7, b7, z7, k7⟩ := boxes1 w6 #[.slice a5 x.records.length c5, .slice a6 x.changes.length c6] 31
    rw [hW7]
    clear hW7
    have z6 := hb6.size
    have HB7 := Lib.hid (hb6.trans (b7.mono (by omega)))
    have K7N := Lib.hid k7
    have OW7 := Lib.hid (ow6.below in6 (Nat.le_refl _) b7)
    have IN7 := Lib.hid (in6.mono (Nat.le_refl _) b7.size)
    clear hb6 ow6 in6 b7 k7
    have K7B := Lib.hid (bkB K9B.out HB7.out (by omega))
    have K7R := Lib.hid (bkB K9R.out HB7.out (by omega))
    have BF := Lib.hid (HB9.out.trans (HB7.out.mono (by omega)))
    have HBX7 := Lib.hid (HBX9.out.trans (HB7.out.mono (by omega)))
    rcases hcs with ⟨hcd, hxx, hO⟩ | ⟨rfl, hxx, hnx⟩
    · have HE := Lib.hid hO
      clear hxx
      have hq : (cd != 0) = true := by rw [bne_iff_ne]; exact hcd
      have hq2 : (cd == 0) = false := by rw [beq_eq_false_iff_ne]; exact hcd
      clear hO hcd
      have t0 := bkC (v := .slice none 0 0) K7B.out 0 rfl
      have t1 := bkC (v := .slice none 0 0) K7B.out 1 rfl
      have gz := bkF K7B.out
      go_wp2
      refine bodyPost_ret (v := .tuple #[.agg #[.slice none 0 0, .slice none 0 0], .int .i64 ((k : Int) + 1), .int .i64 cd]) (by simp [results, Tryz.results10, go_sem, *]) rfl ?_
      exact LoadP.zero HE.out rfl (bset (bset BF.out (by omega) 0 _) (by omega) 1 _)
    · have HNX := Lib.hid hnx
      clear hnx hxx
      have n0 := bkC (v := .slice a5 x.records.length c5) K7N.out 0 rfl
      have n1 := bkC (v := .slice a6 x.changes.length c6) K7N.out 1 rfl
      have r0 := bkC (v := .slice a0 r.records.length c0) K7R.out 0 rfl
      have r1 := bkC (v := .slice a3 r.changes.length c3) K7R.out 1 rfl
      have gr := bkF K7R.out
      go_wp2
      go_roundw
      case rel =>
        refine ⟨k + 1, x, a5, c5, a6, c6, fp6, by omega, by go_num, HNX.out, bset (bset HBX7.out (Nat.le_refl _) 0 _) (Nat.le_refl _) 1 _, by simp; omega, ?_, (OW7.out.setFar (fun h => by have := (IN7.out _ h).1; dsimp only at this; omega) _).setFar (fun h => by have := (IN7.out _ h).1; dsimp only at this; omega) _, ?_⟩
        · have := bkS (bkS K7R.out 0 (.slice a5 x.records.length c5)) 1 (.slice a6 x.changes.length c6)
          simpa using this
        · simpa using IN7.out.mono (by omega) (Nat.le_refl _)
      case measure => simp [intOf]; omega
end
end Go.Proofs.YtjkpadfolkniaaaGreatDoor
