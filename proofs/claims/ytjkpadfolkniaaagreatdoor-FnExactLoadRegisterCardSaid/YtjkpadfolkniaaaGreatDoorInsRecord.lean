/- Rows under copies and insertions: plain lemmas; no program. -/
import Derived.Test.YtjkpadfolkniaaaGreatDoorApp3
import Derived.Lib.AppendZerosOnto
import Derived.Lib.Overlaps
import Derived.Test.YtjkpadfolkniaaaGreatDoorInfoR
import Derived.Test.YtjkpadfolkniaaaGreatDoorVs
import Derived.Test.YtjkpadfolkniaaaGreatDoorOrd
import Derived.Deep.DeepCutAuto
import Derived.IntWalk
namespace Go.Proofs.YtjkpadfolkniaaaGreatDoor
section
open Go.RowKit
set_option linter.unusedVariables false

theorem setCells_setRow (b : Nat) : ∀ (vs : List Value) (o : Nat) (w : World), w.setCells b o vs = setRow w b o vs := by
  intro vs
  induction vs with
  | nil => intro o w; rfl
  | cons v vs ih => intro o w; rw [World.setCells, ih]; rfl
theorem heap_setCellsV (b : Nat) (vs : List Value) (o : Nat) (w : World) (i : Nat) (h : i ≠ b) : (w.setCells b o vs).heap[i]? = w.heap[i]? := by
  rw [setCells_setRow]; exact heap_setRow b vs w o i h
theorem blk_setCells {w : World} {b E : Nat} {cs : Array Value} (h : w.heap[b]? = some (.cells cs E (0, 0))) (vs : List Value) (o : Nat) : ∃ cs', (w.setCells b o vs).heap[b]? = some (.cells cs' E (0, 0)) ∧ cs'.size = cs.size := by
  obtain ⟨cs', h1, h2, _⟩ := row_setRow vs w o cs h
  exact ⟨cs', by rw [setCells_setRow]; exact h1, h2⟩
theorem RowV.of_blk {w : World} {b E : Nat} {cs : Array Value} (h : w.heap[b]? = some (.cells cs E (0, 0))) : RowV w b 0 cs.toList :=
  ⟨fun j u hu => by rw [Nat.zero_add, cell_of_row' h]; simpa using hu, fun i => free_of_row h i⟩
/-- a run is stored within the row -/
theorem RowV.mid {w : World} {b off : Nat} {xs ys : List Value} (h : RowV w b off xs) (p : Nat) (hl : p + ys.length ≤ xs.length) : RowV (w.setCells b (off + p) ys) b off (xs.take p ++ (ys ++ xs.drop (p + ys.length))) := by
  refine ⟨fun j u hu => ?_, fun i => by rw [World.frozen?_setCells]; exact h.free i⟩
  by_cases hj : j < p + ys.length
  · have h2 := (h.set (ys := ys) p hl).cell j u
    apply h2
    by_cases hp : j < p
    · rw [List.getElem?_append_left (by rw [List.length_take]; omega)] at hu ⊢
      exact hu
    · rw [List.getElem?_append_right (by rw [List.length_take]; omega), List.length_take, Nat.min_eq_left (by omega)] at hu ⊢
      rw [List.getElem?_append_left (by omega)] at hu
      exact hu
  · rw [List.getElem?_append_right (by rw [List.length_take]; omega), List.length_take, Nat.min_eq_left (by omega), List.getElem?_append_right (by omega), List.getElem?_drop] at hu
    rw [World.cell?_setCells_out b _ _ _ _ (fun _ _ => Or.inr (by show off + p + ys.length ≤ off + j; omega))]
    exact h.cell j u (by rw [← hu]; congr 1; omega)
theorem ownsRow_of {w : World} {base E k g n cap : Nat} {cs : Array Value} {xs : List Value} (hg : w.heap[g]? = some (.cells cs E (0, 0))) (hr : RowV w g 0 xs) (hl : xs.length = n * k) (hs : cs.size = cap * k) (hn : n ≤ cap) (hc : cap ≤ maxLen) (hb : base ≤ g) :
    w.ownsRow base E k (.slice (some ⟨g, 0, none⟩) n cap) n xs := by
  refine ⟨hl, Or.inr ⟨g, cap, cs, rfl, hb, hg, hn, hc, hs, ?_⟩⟩
  have hle : n * k ≤ cap * k := Nat.mul_le_mul_right k hn
  apply List.ext_getElem?
  intro j
  by_cases hj : j < n * k
  · have h1 := hr.at_ j (by omega)
    rw [Nat.zero_add, cell_of_row' hg] at h1
    rw [List.getElem?_take_of_lt hj, Array.getElem?_toList, h1, List.getElem?_eq_getElem (by omega)]
  · rw [List.getElem?_eq_none (by rw [List.length_take, Array.length_toList]; omega), List.getElem?_eq_none (by omega)]
/-- what an owned row with elements is -/
theorem ownsRow_parts {w : World} {base E k n c : Nat} {a : Option Addr} {xs : List Value} (h : w.ownsRow base E k (.slice a n c) n xs) (hn : 0 < n) :
    ∃ g cs, a = some ⟨g, 0, none⟩ ∧ base ≤ g ∧ w.heap[g]? = some (.cells cs E (0, 0)) ∧ n ≤ c ∧ c ≤ maxLen ∧ cs.size = c * k ∧ cs.toList.take (n * k) = xs := by
  rcases h.2 with ⟨e, rfl⟩ | ⟨g, cap, cs, e, hb, hg, h1, h2, h3, h4⟩
  · omega
  · injection e with e1 _ e3
    subst e1 e3
    exact ⟨g, cs, rfl, hb, hg, h1, h2, h3, h4⟩
section
variable {P : Program}
theorem run_copy_cellsK (w : World) (dT sT ty elem : TypeId) (k b o dLen dCap : Nat) (a : Addr) (sLen sCap : Nat) (cs : List Value)
    (hu : P.underlying dT = some (.slice elem)) (hs : (P.info? elem).map (·.size) = some k) (hn : cs.length = Nat.min sLen dLen * k)
    (hsrc : ∀ j v, cs[j]? = some v → w.cell? (a.add j) = some v) (hc : ∀ j, j < cs.length → (w.cell? ⟨b, o + j, none⟩).isSome = true) (hf : ∀ j, j < cs.length → w.frozen? ⟨b, o + j, none⟩ = false) (h1 : ∀ v ∈ cs, v.oneCell' = true) :
    (Builtin.copy_ #[dT, sT] ty #[.slice (some ⟨b, o, none⟩) dLen dCap, .slice (some a) sLen sCap]).run P w = .ok (goInt (Nat.min sLen dLen)) (w.setCells b o cs) := by
  have hl := run_loadCells_list (P := P) w a cs hsrc
  have hst := run_storeCells_cells (P := P) b o cs 0 w (by simpa using hc) (by simpa using hf) h1
  cases hq : P.info? elem with
  | none => simp [hq] at hs
  | some i =>
    have hi : i.size = k := by simpa [hq] using hs
    simp [Builtin.copy_, run_underlying hu, Builtin.lenOf, Builtin.firstCells, sizeOf, typeInfo, hq, hi, ← hn, hl, hst]
theorem wpList_copy_run {w w' : World} {ops : Array Oper} {rest : List Oper} {o : Oper} {a : Act} {Q : Exit → Act → World → Prop} (hgd : o.guard = none) (d s : Operand) (t t' : TypeId)
    (ho : o.op = .call { callee := .builtin .copy, args := #[d, s], argTypes := #[t, t'] }) {v u v' : Value} (hd : a.eval d = v) (hs : a.eval s = u)
    (hr : (Builtin.copy_ #[t, t'] o.type #[v, u]).run P w = .ok v' w') (h : wpList P ops Q rest (a.put o.dst v') w') : wpList P ops Q (o :: rest) a w := by
  refine wpList_plain hgd fun K hK => ?_
  unfold Oper.wp execOp
  simp only [ho, resolve, invoke, builtin, Sem.run_bind, Sem.run_pure, Result.andThen_ok, List.map_toArray, List.map_cons, List.map_nil, hd, hs, hr]
  exact hK _ _ h
end
theorem zeroCells_size (cs : Array Value) (n : Nat) : (Builtin.zeroCells cs n).size = n * cs.size := by simp [Builtin.zeroCells]
theorem ins_flatv {α : Type} (g : α → List Value) (k : Nat) (hg : ∀ x, (g x).length = k) (l : List α) (x : α) (i : Nat) : (l.take i ++ x :: l.drop i).flatMap g = (l.flatMap g).take (i * k) ++ (g x ++ (l.flatMap g).drop (i * k)) := by
  rw [List.flatMap_append, List.flatMap_cons, flatv_take g k hg, flatv_drop g k hg]
/-- what inserting leaves -/
structure Ins (w w' : World) (base E k : Nat) (ob : Option Nat) (v' : Value) (n : Nat) (xs : List Value) : Prop where
  own : w'.ownsRow base E k v' n xs
  grown : w.grownBy w' ob
  row : v'.ownBlock = ob ∨ ∃ g, v'.ownBlock = some g ∧ w.heap.size ≤ g
end
section
open Go.RowKit
set_option linter.unusedVariables false

set_option maxHeartbeats 4000000 in
set_option maxRecDepth 100000 in
theorem insertRecord_any (l : List DRecord) (x : DRecord) (i : Nat) (hi : i ≤ l.length) (a : Option Addr) (c base vb : Nat) (w : World) (ho : w.ownsRow base 73 2 (.slice a l.length c) l.length (l.flatMap DRecord.vs)) (hbase : base ≤ w.heap.size) (hv : w.heap[vb]? = some (.cells #[.string x.key, .string x.value] 73 (0, 0)))
    (hvo : (Value.slice a l.length c).ownBlock ≠ some vb) (hn : l.length ≤ 1048576) :
    Calls Tryz.prog 77 #[.slice a l.length c, .int .i64 (i : Int), .slice (some ⟨vb, 0, none⟩) 1 1] w fun e w' => ∃ a' c', e = .returned (.slice a' (l.length + 1) c') ∧ Ins w w' base 73 2 (Value.slice a l.length c).ownBlock (.slice a' (l.length + 1) c') (l.length + 1) ((l.take i ++ x :: l.drop i).flatMap DRecord.vs) := by
  obtain ⟨ti, hi0, hi1, hi2, hi3⟩ := info_parts infoRecord
  have HON := Lib.hid (DRecord.vs_one l)
  have HONX : Hid (∀ u ∈ x.vs, u.oneCell' = true) := fun u hu => DRecord.vs_one [x] u (by simpa using hu)
  rw [ins_flatv DRecord.vs 2 DRecord.vs_len]
  have hvlt : vb < w.heap.size := by
    rcases Nat.lt_or_ge vb w.heap.size with h | h
    · exact h
    · rw [Array.getElem?_eq_none h] at hv; cases hv
  have HXL := Lib.hid (flatv_length DRecord.vs 2 DRecord.vs_len l)
  have RV : Hid (RowV w vb 0 x.vs) := RowV.of_blk hv
  have hvl : x.vs.length = 2 := rfl
  generalize l.flatMap DRecord.vs = xs at *
  generalize l.length = n at *
  clear l
  have hnI : (n : Int) ≤ 1048576 := by omega
  by_cases he : i = n
  · subst he
    have hr : Reads w w.heap.size 2 (some ⟨vb, 0, none⟩) 1 x.vs := ⟨by rw [hvl], fun _ => ⟨⟨vb, 0, none⟩, rfl, hvlt, fun j u hu => by rw [add_mk]; exact RV.out.cell j u hu⟩⟩
    have HRR := Lib.hid hr
    have HOO := Lib.hid ho
    have HV := Lib.hid hv
    have HL2 : Hid (xs.take (i * 2) ++ (x.vs ++ xs.drop (i * 2)) = xs ++ x.vs) := by
      show _ = _
      rw [List.take_of_length_le (by rw [HXL.out]; omega), List.drop_eq_nil_of_le (by rw [HXL.out]; omega), List.append_nil]
    obtain ⟨a9, c9, ee, hnc⟩ := ownsRow_slice ho
    injection ee with ee1 _ ee3
    subst ee1 ee3
    have HOB := Lib.hid (rfl : (Value.slice a i c).ownBlock = (Value.slice a i c).ownBlock)
    generalize hob : (Value.slice a i c).ownBlock = ob at HOB ⊢
    replace HOB := Lib.hid hob
    clear hr ho hv hvl hob hvo
    have i1 : (i : Int) ≤ (c : Int) := by omega
    go_enter Tryz.func77, Tryz.ntmps77
    go_wp2_with (at_builtin; refine wpList_append_any _ rfl (.tmp 23) (.tmp 24) _ rfl base 73 ti _ 2 32 Tryz.underlying28 hi0 hi1 hi2 hi3 rfl (by omega) (.slice a i c) i xs rfl HOO.out w.heap.size _ 1 1 x.vs rfl HRR.out HONX.out (by simp only [maxLen]; omega) (by omega) hbase ?_; intro v1 w1 hown1 hg1 hat1; rw [HOB.out] at hg1 hat1; obtain ⟨a5, c5, e5, -⟩ := ownsRow_slice hown1; subst e5; have HO1 := Lib.hid hown1; have HG1 := Lib.hid hg1; have HA1 := Lib.hid hat1; clear hown1 hg1 hat1)
    all_goals
      go_ret
      refine ⟨a5, c5, rfl, ⟨by rw [HL2.out]; exact HO1.out, HG1.out, ?_⟩⟩
      rcases HA1.out with e | e
      · exact Or.inl e
      · exact Or.inr ⟨_, e, Nat.le_refl _⟩
  have hlt : i < n := by omega
  obtain ⟨g, cs, ea, hbg, hg, hnc, hcm, hcs, htk⟩ := ownsRow_parts ho (by omega)
  subst ea
  have hgv : g ≠ vb := fun e => hvo (by rw [← e]; rfl)
  have hglt : g < w.heap.size := by
    rcases Nat.lt_or_ge g w.heap.size with h | h
    · exact h
    · rw [Array.getElem?_eq_none h] at hg; cases hg
  unfold maxLen at hcm
  have RG : Hid (RowV w g 0 cs.toList) := RowV.of_blk hg
  have RX : Hid (RowV w g 0 xs) := by have h := RG.out.take (n * 2); rw [htk] at h; exact h
  have HCS := Lib.hid hcs
  have HTK := Lib.hid htk
  have HG := Lib.hid hg
  have HV := Lib.hid hv
  have hszk : (Tryz.prog.info? 73).map (·.size) = some 2 := by rw [hi0]; simp [hi2]
  have HSZ := Lib.hid hszk
  clear ho hv hvo hcs htk hg hszk
  have HDL : Hid ((xs.drop (i * 2)).length = (n - i) * 2) := by show _ = _; rw [List.length_drop, HXL.out]; omega
  have j1 : ((i : Int) == (n : Int)) = false := by simp; omega
  have j2 : (i : Int) ≤ (n : Int) := by omega
  have j3 : ¬ (i = n) := he
  have j4 : (n : Int) ≤ (c : Int) := by omega
  have j5 : (i : Int) ≤ (c : Int) := by omega
  have j6 : ¬ (c = i) := by omega
  have j7 : i ≤ n := by omega
  by_cases hroom : n + 1 ≤ c
  · -- in place
    have hov : ∀ lb cb, (callFunc 93 #[.slice (some ⟨vb, 0, none⟩) 1 1, .slice (some ⟨g, (i + 1) * 2, none⟩) lb cb]).run Tryz.prog w = .ok (.value (.bool false)) w := fun lb cb => by
      rw [run_callFunc_extern Tryz.func93 (by kernel_rfl) (by kernel_rfl) (by kernel_rfl) (e := Extern.SlicesOverlaps.overlaps #[28, 28] #[4]) (by kernel_rfl),
        Lib.run_overlaps_apart w 28 4 73 Tryz.underlying28 2 (fun _ => by kernel_rfl) ⟨vb, 0, none⟩ ⟨g, (i + 1) * 2, none⟩ 1 1 lb cb (Ne.symm hgv) 73 73 2 cs.size (by simp [World.shape?, HV.out]) (by simp [World.shape?, HG.out]) (by rw [HCS.out]; omega) (RV.out.free 0) (RV.out.free 2)]
      rfl
    have hcp1 : ∀ ty dc sc, (Builtin.copy_ #[28, 28] ty #[.slice (some ⟨g, (i + 1) * 2, none⟩) (n - i) dc, .slice (some ⟨g, i * 2, none⟩) (n + 1 - i) sc]).run Tryz.prog w.drew = .ok (goInt (Nat.min (n + 1 - i) (n - i))) (w.drew.setCells g ((i + 1) * 2) (xs.drop (i * 2))) := fun ty dc sc =>
      run_copy_cellsK w.drew _ _ ty 73 2 g ((i + 1) * 2) (n - i) dc ⟨g, i * 2, none⟩ (n + 1 - i) sc (xs.drop (i * 2)) Tryz.underlying28 HSZ.out (by rw [HDL.out, show Nat.min (n + 1 - i) (n - i) = n - i from Nat.min_eq_right (by omega)])
        (fun j v hj => by rw [add_mk]; have h := (RX.out.drop (i * 2)).drew.cell j v hj; rw [Nat.zero_add] at h; exact h)
        (fun j hj => by have h := RG.out.drew.some_ ((i + 1) * 2 + j) (by rw [Array.length_toList, HCS.out]; rw [HDL.out] at hj; omega); rw [Nat.zero_add] at h; exact h) (fun j hj => RG.out.drew.free _) (fun v hv => HON.out v (List.mem_of_mem_drop hv))
    have R1 : RowV (w.drew.setCells g (0 + (i + 1) * 2) (xs.drop (i * 2))) g 0 (cs.toList.take ((i + 1) * 2) ++ xs.drop (i * 2)) := RG.out.drew.set ((i + 1) * 2) (by rw [HDL.out, Array.length_toList, HCS.out]; omega)
    rw [Nat.zero_add] at R1
    have R1V : RowV (w.drew.setCells g ((i + 1) * 2) (xs.drop (i * 2))) vb 0 x.vs := RV.out.drew.frame (heap_setCellsV g _ _ _ vb (Ne.symm hgv))
    have hlen1 : (cs.toList.take ((i + 1) * 2) ++ xs.drop (i * 2)).length = (n + 1) * 2 := by rw [List.length_append, HDL.out, List.length_take, Array.length_toList, HCS.out]; omega
    obtain ⟨cs1, hk1, hs1⟩ := blk_setCells (w := w.drew) (E := 73) (cs := cs) HG.out (xs.drop (i * 2)) ((i + 1) * 2)
    generalize hW1 : w.drew.setCells g ((i + 1) * 2) (xs.drop (i * 2)) = W1 at *
    have HW1 := Lib.hid hW1
    clear hW1
    have hcp2 : ∀ ty dc, (Builtin.copy_ #[28, 28] ty #[.slice (some ⟨g, i * 2, none⟩) (n + 1 - i) dc, .slice (some ⟨vb, 0, none⟩) 1 1]).run Tryz.prog W1 = .ok (goInt (Nat.min 1 (n + 1 - i))) (W1.setCells g (i * 2) x.vs) := fun ty dc =>
      run_copy_cellsK W1 _ _ ty 73 2 g (i * 2) (n + 1 - i) dc ⟨vb, 0, none⟩ 1 1 x.vs Tryz.underlying28 HSZ.out (by rw [show Nat.min 1 (n + 1 - i) = 1 from Nat.min_eq_left (by omega), hvl])
        (fun j v hj => by rw [add_mk]; exact R1V.cell j v hj)
        (fun j hj => by have h := R1.some_ (i * 2 + j) (by rw [hlen1]; rw [hvl] at hj; omega); rw [Nat.zero_add] at h; exact h) (fun j hj => R1.free _) HONX.out
    have R2 := R1.mid (ys := x.vs) (i * 2) (by rw [hlen1, hvl]; omega)
    rw [Nat.zero_add] at R2
    have hfin : (cs.toList.take ((i + 1) * 2) ++ xs.drop (i * 2)).take (i * 2) ++ (x.vs ++ (cs.toList.take ((i + 1) * 2) ++ xs.drop (i * 2)).drop (i * 2 + x.vs.length)) = xs.take (i * 2) ++ (x.vs ++ xs.drop (i * 2)) := by
      have hl1 : (cs.toList.take ((i + 1) * 2)).length = (i + 1) * 2 := by rw [List.length_take, Array.length_toList, HCS.out]; omega
      rw [List.take_append_of_le_length (by rw [hl1]; omega), List.take_take, Nat.min_eq_left (by omega)]
      rw [show i * 2 + x.vs.length = (cs.toList.take ((i + 1) * 2)).length by rw [hl1, hvl]; omega, List.drop_left]
      congr 1
      rw [← HTK.out, List.take_take, Nat.min_eq_left (by omega)]
    rw [hfin] at R2
    obtain ⟨cs2, hk2, hs2⟩ := blk_setCells hk1 x.vs (i * 2)
    have OWN := Lib.hid (ownsRow_of (base := base) (cap := c) (n := n + 1) (k := 2) hk2 R2 (by simp only [List.length_append, hvl, HDL.out, List.length_take, HXL.out]; omega) (by rw [hs2, hs1, HCS.out]) hroom (by unfold maxLen; omega) hbg)
    have GRW : Hid (w.grownBy (W1.setCells g (i * 2) x.vs) (some g)) := by
      rw [← HW1.out]
      have hc0 : Chg [g] w ((w.drew.setCells g ((i + 1) * 2) (xs.drop (i * 2))).setCells g (i * 2) x.vs) := chg_setCellsV (chg_setCellsV (Chg.refl _ _).drew (by simp) _ _) (by simp) _ _
      exact ⟨hc0.os, hc0.tape, hc0.output, hc0.size, fun b hb hne => hc0.block b hb (by simpa using fun e => hne (by rw [e]))⟩
    have HCP1 := Lib.hid hcp1
    have HCP2 := Lib.hid hcp2
    clear R1 R1V R2 hlen1 hfin hk1 hs1 hk2 hs2 hcp1 hcp2 hvl
    have k1 : (n : Int) + 1 ≤ (c : Int) := by omega
    have k3 : (i : Int) + 1 ≤ (n : Int) + 1 := by omega
    have k4 : (i : Int) ≤ (n : Int) + 1 := by omega
    have k5 : ¬ (c = i + 1) := by omega
    have k7 : i ≤ n + 1 := by omega
    go_enter Tryz.func77, Tryz.ntmps77
    go_upto_region 15 with (simp only [hov])
    clear hov
    have kw : IntKind.i64.wrap ((i : Int) + 1) = (i : Int) + 1 := IntWalk.i64_in _ (by omega)
    have kt : ((i : Int) + 1).toNat = i + 1 := by omega
    have kz : (0 : Int) ≤ (i : Int) + 1 := by omega
    refine wp_region_ord 8 [(0, true), (1, true), (2, true), (3, true), (4, true), (5, true), (6, true), (7, true)] (fun W => True) (by kernel_rfl) (by kernel_rfl) trivial (fun hHeld => ?_)
    refine wpOrd_read (v := ?_) rfl (fun _ _ _ h => h) ?_ ?_
    rotate_left
    · (intro W hSW; (try dsimp only at hSW); (go_simp <;> with_reducible rfl))
    (try simp only [Act.put, List.setIfInBounds_toArray, List.set_cons_zero, List.set_cons_succ])
    refine wpOrd_read (v := ?_) rfl (fun _ _ _ h => h) ?_ ?_
    rotate_left
    · (intro W hSW; (try dsimp only at hSW); (go_simp <;> with_reducible rfl))
    (try simp only [Act.put, List.setIfInBounds_toArray, List.set_cons_zero, List.set_cons_succ])
    refine wpOrd_read (v := ?_) rfl (fun _ _ _ h => h) ?_ ?_
    rotate_left
    · (intro W hSW; (try dsimp only at hSW); (go_simp <;> with_reducible rfl))
    (try simp only [Act.put, List.setIfInBounds_toArray, List.set_cons_zero, List.set_cons_succ])
    refine wpOrd_read (v := ?_) rfl (fun _ _ _ h => h) ?_ ?_
    rotate_left
    · (intro W hSW; (try dsimp only at hSW); (go_simp <;> with_reducible rfl))
    (try simp only [Act.put, List.setIfInBounds_toArray, List.set_cons_zero, List.set_cons_succ])
    refine wpOrd_read (v := ?_) rfl (fun _ _ _ h => h) ?_ ?_
    rotate_left
    · (intro W hSW; (try dsimp only at hSW); (go_simp <;> with_reducible rfl))
    (try simp only [Act.put, List.setIfInBounds_toArray, List.set_cons_zero, List.set_cons_succ])
    refine wpOrd_read (v := ?_) rfl (fun _ _ _ h => h) ?_ ?_
    rotate_left
    · (intro W hSW; (try dsimp only at hSW); (go_simp <;> with_reducible rfl))
    (try simp only [Act.put, List.setIfInBounds_toArray, List.set_cons_zero, List.set_cons_succ])
    refine wpOrd_read (v := ?_) rfl (fun _ _ _ h => h) ?_ ?_
    rotate_left
    · (intro W hSW; (try dsimp only at hSW); (go_simp <;> with_reducible rfl))
    (try simp only [Act.put, List.setIfInBounds_toArray, List.set_cons_zero, List.set_cons_succ])
    refine wpOrd_read (v := ?_) rfl (fun _ _ _ h => h) ?_ ?_
    rotate_left
    · (intro W hSW; (try dsimp only at hSW); (go_simp <;> with_reducible rfl))
    (try simp only [Act.put, List.setIfInBounds_toArray, List.set_cons_zero, List.set_cons_succ])
    refine wpOrd_nil ?_
    simp only [List.drop_succ_cons, List.drop_zero]
    clear kw kt kz
    refine wpList_copy_run rfl (.tmp 73) (.tmp 76) _ _ rfl rfl rfl (HCP1.out _ _ _) ?_
    go_wp2_with (with_reducible refine wpList_copy_run rfl (.tmp 80) (.tmp 81) _ _ rfl rfl rfl (HCP2.out _ _) ?_)
    go_ret
    exact ⟨_, _, rfl, ⟨OWN.out, GRW.out, Or.inl rfl⟩⟩
  · -- a new row
    obtain rfl : c = n := by omega
    obtain ⟨zz, hzz⟩ : ∃ zz : Value, zz = .agg #[.string ⟨#[]⟩, .string ⟨#[]⟩] := ⟨_, rfl⟩
    have hzs : zz.cells.size = 2 := by rw [hzz]; rfl
    have hi1' : ti.zero = some zz := by rw [hzz]; exact hi1
    have hold : (Builtin.firstCells ti.size i (.slice (some ⟨g, 0, none⟩) i c)).run Tryz.prog w.drew = .ok (xs.take (i * 2)).toArray w.drew := by
      rw [hi2]
      refine run_firstCells_some w.drew 2 i ⟨g, 0, none⟩ i c (xs.take (i * 2)) (by rw [List.length_take, HXL.out]; omega) (fun j v hj => ?_)
      rw [add_mk]
      exact (RX.out.take (i * 2)).drew.cell j v hj
    have hik : i + (c + 1 - i) = c + 1 := by omega
    have hkk : (c : Int) + 1 - (i : Int) = ((c + 1 - i : Nat) : Int) := by omega
    have hrz : ∀ ty, (Builtin.append_ #[28, 3] ty #[.slice (some ⟨g, 0, none⟩) i c, .int .i64 ((c : Int) + 1 - (i : Int))]).run Tryz.prog w =
        .ok (.slice (some ⟨w.heap.size, 0, none⟩) (c + 1) (grownCap w (c + 1) c 73)) (w.drew.alloc (.cells ((xs.take (i * 2)).toArray ++ Builtin.zeroCells zz.cells (c + 1 - i) ++ Builtin.zeroCells zz.cells (grownCap w (c + 1) c 73 - (c + 1))) 73)) := fun ty => by
      have h := Lib.run_append_grow_zeros (P := Tryz.prog) w 28 3 ty 73 ti zz .i64 .i64 Tryz.underlying28 Tryz.underlying3 hi0 hi1' (some ⟨g, 0, none⟩) i c (xs.take (i * 2)) hold (c + 1 - i) (by omega) (by omega) (by omega) (by omega) (by rw [hi3]; omega) (by rw [hi3, hik]; exact growslice_fits (by omega) (by omega))
      rw [hik] at h
      rw [hkk]
      exact h
    have hGn : c + 1 ≤ grownCap w (c + 1) c 73 := grownCap_ge w _ _ _
    have hGm := grownCap_le_maxLen w (c + 1) c 73 (by unfold maxLen; omega)
    unfold maxLen at hGm
    generalize grownCap w (c + 1) c 73 = G at *
    obtain ⟨ROW, hROW⟩ : ∃ ROW : Array Value, ROW = (xs.take (i * 2)).toArray ++ Builtin.zeroCells zz.cells (c + 1 - i) ++ Builtin.zeroCells zz.cells (G - (c + 1)) := ⟨_, rfl⟩
    rw [← hROW] at hrz
    have hRl : ROW.size = G * 2 := by
      rw [hROW, Array.size_append, Array.size_append, zeroCells_size, zeroCells_size, hzs, List.size_toArray, List.length_take, HXL.out]
      omega
    have hRt : ROW.toList.take (i * 2) = xs.take (i * 2) := by
      rw [hROW, Array.toList_append, Array.toList_append, List.append_assoc, List.take_append_of_le_length (by simp [HXL.out]; omega), List.toList_toArray, List.take_take, Nat.min_self]
    have k1 : (w.drew.alloc (.cells ROW 73)).heap[w.heap.size]? = some (.cells ROW 73 (0, 0)) := by show (w.heap.push _)[w.heap.size]? = _; simp
    have RX1 : RowV (w.drew.alloc (.cells ROW 73)) g 0 xs := RX.out.drew.frame (Below.heap_alloc w.drew _ g hglt)
    have RV1 : RowV (w.drew.alloc (.cells ROW 73)) vb 0 x.vs := RV.out.drew.frame (Below.heap_alloc w.drew _ vb hvlt)
    have hc1 : ∀ b, b < w.heap.size → (w.drew.alloc (.cells ROW 73)).heap[b]? = w.heap[b]? := fun b hb => Below.heap_alloc w.drew _ b hb
    have hq1 : (w.drew.alloc (.cells ROW 73)).os = w.os ∧ (w.drew.alloc (.cells ROW 73)).tape = w.tape ∧ (w.drew.alloc (.cells ROW 73)).output = w.output ∧ (w.drew.alloc (.cells ROW 73)).heap.size = w.heap.size + 1 := ⟨rfl, rfl, rfl, by show (w.heap.push _).size = _; simp⟩
    clear hold hik hkk hROW
    generalize w.drew.alloc (.cells ROW 73) = W1 at *
    have RW1 := RowV.of_blk k1
    have hgn : g ≠ w.heap.size := by omega
    have hvn : vb ≠ w.heap.size := by omega
    have hcpA : ∀ ty dc, (Builtin.copy_ #[28, 28] ty #[.slice (some ⟨w.heap.size, i * 2, none⟩) (c + 1 - i) dc, .slice (some ⟨vb, 0, none⟩) 1 1]).run Tryz.prog W1 = .ok (goInt (Nat.min 1 (c + 1 - i))) (W1.setCells w.heap.size (i * 2) x.vs) := fun ty dc =>
      run_copy_cellsK W1 _ _ ty 73 2 w.heap.size (i * 2) (c + 1 - i) dc ⟨vb, 0, none⟩ 1 1 x.vs Tryz.underlying28 HSZ.out (by rw [show Nat.min 1 (c + 1 - i) = 1 from Nat.min_eq_left (by omega), hvl])
        (fun j v hj => by rw [add_mk]; exact RV1.cell j v hj)
        (fun j hj => by have h := RW1.some_ (i * 2 + j) (by rw [Array.length_toList, hRl]; rw [hvl] at hj; omega); rw [Nat.zero_add] at h; exact h) (fun j hj => RW1.free _) HONX.out
    have R2 := RW1.mid (ys := x.vs) (i * 2) (by rw [hvl, Array.length_toList, hRl]; omega)
    rw [Nat.zero_add, hRt] at R2
    have RX2 : RowV (W1.setCells w.heap.size (i * 2) x.vs) g 0 xs := RX1.frame (heap_setCellsV _ _ _ _ g hgn)
    obtain ⟨cs2, hk2, hs2⟩ := blk_setCells k1 x.vs (i * 2)
    have hc2 : ∀ b, b < w.heap.size → (W1.setCells w.heap.size (i * 2) x.vs).heap[b]? = w.heap[b]? := fun b hb => (heap_setCellsV _ _ _ _ b (by omega)).trans (hc1 b hb)
    have hq2 : (W1.setCells w.heap.size (i * 2) x.vs).os = w.os ∧ (W1.setCells w.heap.size (i * 2) x.vs).tape = w.tape ∧ (W1.setCells w.heap.size (i * 2) x.vs).output = w.output ∧ (W1.setCells w.heap.size (i * 2) x.vs).heap.size = w.heap.size + 1 := by
      have h := chg_setCellsV (b := w.heap.size) (Chg.refl [w.heap.size] W1) (by simp) x.vs (i * 2)
      exact ⟨h.os.trans hq1.1, h.tape.trans hq1.2.1, h.output.trans hq1.2.2.1, by rw [size_setCellsV]; exact hq1.2.2.2⟩
    have HCPA := Lib.hid hcpA
    clear hcpA RX1 RV1 hc1 hq1
    generalize W1.setCells w.heap.size (i * 2) x.vs = W2 at *
    have hl2 : (xs.take (i * 2) ++ (x.vs ++ ROW.toList.drop (i * 2 + x.vs.length))).length = G * 2 := by
      simp only [List.length_append, List.length_take, List.length_drop, Array.length_toList, hRl, hvl, HXL.out]
      omega
    have hcpB : ∀ ty dc sc, (Builtin.copy_ #[28, 28] ty #[.slice (some ⟨w.heap.size, (i + 1) * 2, none⟩) (c - i) dc, .slice (some ⟨g, i * 2, none⟩) (c - i) sc]).run Tryz.prog W2.drew = .ok (goInt (Nat.min (c - i) (c - i))) (W2.drew.setCells w.heap.size ((i + 1) * 2) (xs.drop (i * 2))) := fun ty dc sc =>
      run_copy_cellsK W2.drew _ _ ty 73 2 w.heap.size ((i + 1) * 2) (c - i) dc ⟨g, i * 2, none⟩ (c - i) sc (xs.drop (i * 2)) Tryz.underlying28 HSZ.out (by rw [HDL.out, show Nat.min (c - i) (c - i) = c - i from Nat.min_self _])
        (fun j v hj => by rw [add_mk]; have h := (RX2.drop (i * 2)).drew.cell j v hj; rw [Nat.zero_add] at h; exact h)
        (fun j hj => by have h := R2.drew.some_ ((i + 1) * 2 + j) (by rw [hl2]; rw [HDL.out] at hj; omega); rw [Nat.zero_add] at h; exact h) (fun j hj => R2.drew.free _) (fun v hv => HON.out v (List.mem_of_mem_drop hv))
    have R3 := R2.drew.set (ys := xs.drop (i * 2)) ((i + 1) * 2) (by rw [hl2, HDL.out]; omega)
    rw [Nat.zero_add] at R3
    have hfin : (xs.take (i * 2) ++ (x.vs ++ ROW.toList.drop (i * 2 + x.vs.length))).take ((i + 1) * 2) ++ xs.drop (i * 2) = xs.take (i * 2) ++ (x.vs ++ xs.drop (i * 2)) := by
      rw [← List.append_assoc (xs.take (i * 2)) x.vs, show (i + 1) * 2 = (xs.take (i * 2) ++ x.vs).length by simp only [List.length_append, List.length_take, HXL.out, hvl]; omega, List.take_left, List.append_assoc]
    rw [hfin] at R3
    obtain ⟨cs3, hk3, hs3⟩ := blk_setCells (w := W2.drew) (E := 73) (cs := cs2) hk2 (xs.drop (i * 2)) ((i + 1) * 2)
    have OWN := Lib.hid (ownsRow_of (base := base) (cap := G) (n := c + 1) (k := 2) hk3 R3 (by simp only [List.length_append, hvl, HDL.out, List.length_take, HXL.out]; omega) (by rw [hs3, hs2, hRl]) hGn (by unfold maxLen; omega) hbase)
    have GRW : Hid (w.grownBy (W2.drew.setCells w.heap.size ((i + 1) * 2) (xs.drop (i * 2))) (some g)) := by
      have h := chg_setCellsV (b := w.heap.size) (Chg.refl [w.heap.size] W2).drew (by simp) (xs.drop (i * 2)) ((i + 1) * 2)
      exact ⟨h.os.trans hq2.1, h.tape.trans hq2.2.1, h.output.trans hq2.2.2.1, by rw [size_setCellsV]; show w.heap.size ≤ W2.heap.size; omega, fun b hb hne => (heap_setCellsV _ _ _ _ b (by omega)).trans (hc2 b hb)⟩
    have HCPB := Lib.hid hcpB
    have HRZ := Lib.hid hrz
    clear hcpB hrz R2 R3 hfin hk2 hs2 hk3 hs3 hl2 RX2 RW1 hc2 hq2 hRl hRt k1 hvl hzs hi1' hzz
    have k1 : (c : Int) < (c : Int) + 1 := by omega
    have k2 : ¬ ((c : Int) + 1 ≤ (c : Int)) := by omega
    have k3 : ¬ (G = i) := by omega
    have k5 : ¬ (G = i + 1) := by omega
    have k6 : (c : Int) + 1 ≤ (G : Int) := by omega
    have k7 : i ≤ c + 1 := by omega
    have k8 : (i : Int) ≤ (c : Int) + 1 := by omega
    have k9 : (i : Int) + 1 ≤ (c : Int) + 1 := by omega
    go_enter Tryz.func77, Tryz.ntmps77
    go_upto_region 11 with (first | (at_builtin; refine wpList_append_run rfl (.tmp 34) (.tmp 39) _ _ rfl rfl rfl (HRZ.out _) ?_) | (with_reducible refine wpList_copy_run rfl (.tmp 43) (.tmp 44) _ _ rfl rfl rfl (HCPA.out _ _) ?_))
    have kw : IntKind.i64.wrap ((i : Int) + 1) = (i : Int) + 1 := IntWalk.i64_in _ (by omega)
    have kt : ((i : Int) + 1).toNat = i + 1 := by omega
    have kz : (0 : Int) ≤ (i : Int) + 1 := by omega
    refine wp_region_ord 8 [(0, true), (1, true), (2, true), (3, true), (4, true), (5, true), (6, true), (7, true)] (fun W => True) (by kernel_rfl) (by kernel_rfl) trivial (fun hHeld => ?_)
    refine wpOrd_read (v := ?_) rfl (fun _ _ _ h => h) ?_ ?_
    rotate_left
    · (intro W hSW; (try dsimp only at hSW); (go_simp <;> with_reducible rfl))
    (try simp only [Act.put, List.setIfInBounds_toArray, List.set_cons_zero, List.set_cons_succ])
    refine wpOrd_read (v := ?_) rfl (fun _ _ _ h => h) ?_ ?_
    rotate_left
    · (intro W hSW; (try dsimp only at hSW); (go_simp <;> with_reducible rfl))
    (try simp only [Act.put, List.setIfInBounds_toArray, List.set_cons_zero, List.set_cons_succ])
    refine wpOrd_read (v := ?_) rfl (fun _ _ _ h => h) ?_ ?_
    rotate_left
    · (intro W hSW; (try dsimp only at hSW); (go_simp <;> with_reducible rfl))
    (try simp only [Act.put, List.setIfInBounds_toArray, List.set_cons_zero, List.set_cons_succ])
    refine wpOrd_read (v := ?_) rfl (fun _ _ _ h => h) ?_ ?_
    rotate_left
    · (intro W hSW; (try dsimp only at hSW); (go_simp <;> with_reducible rfl))
    (try simp only [Act.put, List.setIfInBounds_toArray, List.set_cons_zero, List.set_cons_succ])
    refine wpOrd_read (v := ?_) rfl (fun _ _ _ h => h) ?_ ?_
    rotate_left
    · (intro W hSW; (try dsimp only at hSW); (go_simp <;> with_reducible rfl))
    (try simp only [Act.put, List.setIfInBounds_toArray, List.set_cons_zero, List.set_cons_succ])
    refine wpOrd_read (v := ?_) rfl (fun _ _ _ h => h) ?_ ?_
    rotate_left
    · (intro W hSW; (try dsimp only at hSW); (go_simp <;> with_reducible rfl))
    (try simp only [Act.put, List.setIfInBounds_toArray, List.set_cons_zero, List.set_cons_succ])
    refine wpOrd_read (v := ?_) rfl (fun _ _ _ h => h) ?_ ?_
    rotate_left
    · (intro W hSW; (try dsimp only at hSW); (go_simp <;> with_reducible rfl))
    (try simp only [Act.put, List.setIfInBounds_toArray, List.set_cons_zero, List.set_cons_succ])
    refine wpOrd_read (v := ?_) rfl (fun _ _ _ h => h) ?_ ?_
    rotate_left
    · (intro W hSW; (try dsimp only at hSW); (go_simp <;> with_reducible rfl))
    (try simp only [Act.put, List.setIfInBounds_toArray, List.set_cons_zero, List.set_cons_succ])
    refine wpOrd_nil ?_
    simp only [List.drop_succ_cons, List.drop_zero]
    clear kw kt kz
    refine wpList_copy_run rfl (.tmp 50) (.tmp 53) _ _ rfl rfl rfl (HCPB.out _ _ _) ?_
    go_wp2
    go_ret
    exact ⟨_, _, rfl, ⟨OWN.out, GRW.out, Or.inr ⟨_, rfl, Nat.le_refl _⟩⟩⟩
end
end Go.Proofs.YtjkpadfolkniaaaGreatDoor
