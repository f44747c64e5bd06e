/- Contracts: the names of commands: the keys of a map that the call makes, sorted (the program); a row of literals (the reference). No condition. -/
import Derived.Test.YtggkcdeclnoaeaaGreatDoorIter
import Derived.Test.YtggkcdeclnoaeaaGreatDoorStrs
import Derived.Test.YtggkcdeclnoaeaaGreatDoorBlk
import Derived.Maps.Own
import Derived.StringKeys
import Derived.Sort.KeysCollected
namespace Go.Proofs.YtggkcdeclnoaeaaGreatDoor
open Go.RowKit Go.Maps Go.Sort Go.ChangeMaps Go.MapKept
set_option linter.unusedVariables false
set_option linter.unusedSimpArgs false

def cmdNames : List (List UInt8) := [[97, 110, 115, 119, 101, 114], [97, 110, 116, 101, 110, 110, 97], [97, 112, 97, 114, 116], [97, 117, 100, 105, 116], [98, 97, 110, 100], [99, 104, 97, 110, 110, 101, 108], [99, 111, 118, 101, 114], [100, 97, 121], [100, 114, 111, 112], [103, 114, 111, 117, 110, 100], [104, 101, 108, 112], [108, 97, 112, 115, 101], [108, 101, 118, 101, 108], [108, 105, 99, 101, 110, 99, 101], [112, 114, 111, 116, 101, 99, 116], [114, 97, 100, 105, 111], [114, 101, 113, 117, 101, 115, 116], [114, 101, 113, 117, 101, 115, 116, 115], [115, 101, 99, 116, 111, 114], [115, 101, 99, 116, 111, 114, 115], [115, 105, 116, 101], [116, 101, 114, 114, 97, 105, 110]]
def cmdIns : List (List UInt8) := [[116, 101, 114, 114, 97, 105, 110], [103, 114, 111, 117, 110, 100], [97, 110, 116, 101, 110, 110, 97], [114, 97, 100, 105, 111], [98, 97, 110, 100], [115, 105, 116, 101], [115, 101, 99, 116, 111, 114], [108, 105, 99, 101, 110, 99, 101], [112, 114, 111, 116, 101, 99, 116], [100, 114, 111, 112], [99, 104, 97, 110, 110, 101, 108], [97, 112, 97, 114, 116], [100, 97, 121], [108, 101, 118, 101, 108], [99, 111, 118, 101, 114], [115, 101, 99, 116, 111, 114, 115], [97, 117, 100, 105, 116], [114, 101, 113, 117, 101, 115, 116], [97, 110, 115, 119, 101, 114], [108, 97, 112, 115, 101], [114, 101, 113, 117, 101, 115, 116, 115], [104, 101, 108, 112]]
def ofB (l : List UInt8) : ByteArray := ⟨l.toArray⟩
/-- an element of the map reads as nothing that matters -/
def cmdR (v : Value) : Option (DataW Unit × List MemPlace) := some (.nil, [])
def cmdD (l : List (List UInt8)) : DataW Unit := l.foldl (fun D k => D.put (.string k) .nil) (.map [])
theorem cmd_sorted : cmdNames.Pairwise (fun a b => leB a b = true) := by decide +kernel
theorem cmd_perm : cmdNames.Perm (strKeys (cmdD cmdIns)) := List.isPerm_iff.1 (by decide +kernel)
theorem cmd_size : Maps.size (cmdD cmdIns) = 22 := by decide +kernel
theorem cmd_merge {ss : List (List UInt8)} (h : ss.Perm (strKeys (cmdD cmdIns))) : ss.mergeSort (fun x y => decide (x ≤ y)) = cmdNames := by
  have h1 : ss.mergeSort leB = cmdNames.mergeSort leB := mergeSort_of_perm (h.trans cmd_perm.symm)
  rw [show ss.mergeSort (fun x y => decide (x ≤ y)) = ss.mergeSort leB from rfl, h1]
  exact List.mergeSort_of_pairwise cmd_sorted
theorem cmd_len {ss : List (List UInt8)} (h : ss.Perm (strKeys (cmdD cmdIns))) : ss.length = 22 := (h.trans cmd_perm.symm).length_eq

theorem wpList_insert_own {H : Type} {P : Program} (w : World) {ops : Array Oper} {rest : List Oper} {o : Oper} {a : Act} {Q : Exit → Act → World → Prop}
    (hg : o.guard = none) (m x v : Operand) (t : TypeId) (hop : o.op = Op.insert t m x v)
    (k e : TypeId) (K : Keyed P k) (ht : P.underlying t = some (.map k e)) (R : Value → Option (DataW H × List MemPlace)) (b n : Nat) (D : DataW H)
    (hm : a.eval m = .map (some b)) (hown : w.ownsMap P k R b n D) (hn : n < maxLen) (key val : Value) (kl : Lit) (hx : a.eval x = key) (hv : a.eval v = val) (hkey : keyOf P k key = some kl)
    (d : DataW H) (ps : List MemPlace) (hval : R val = some (d, ps))
    (hK : ∀ w', w'.ownsMap P k R b (n + 1) (D.put kl d) → w.grownBy w' (some b) → wpList P ops Q rest (a.put o.dst undef) w') :
    wpList P ops Q (o :: rest) a w := by
  refine wpList_plain hg fun K' hK' => ?_
  obtain ⟨w', hrun, r1, r2⟩ := hown.update K ht hn hkey hval
  unfold Oper.wp
  simp [execOp, hop, hm, hx, hv, hrun, Result.andThen]
  exact hK' _ _ (hK w' r1 r2)
theorem strKeyed : Keyed Tryz.prog 9 := string_keyed Tryz.underlying9
theorem keyOf_cmd (l : List UInt8) (h : l.length ≤ maxLen) : keyOf Tryz.prog 9 (.string ⟨l.toArray⟩) = some (.string l) := by
  have := Go.WideMaps.keyOf_string_mk (P := Tryz.prog) (k := 9) (s := ⟨l.toArray⟩) Tryz.underlying9 h
  simpa using this
theorem below_grown {B : Nat} {a w w' : World} {b : Nat} (h : Below B a w) (hg : w.grownBy w' (some b)) (ha : B ≤ a.heap.size) (hb : B ≤ b) : Below B a w' := h.grown hg (Nat.le_trans ha h.size) (fun j hj => by cases hj; exact hb)
set_option maxHeartbeats 8000000 in
set_option maxRecDepth 100000 in
theorem deskCommands_any (w : World) : Calls Tryz.prog 11 #[] w fun e w' => e = .returned (.map (some w.heap.size)) ∧ w'.ownsMap Tryz.prog 9 cmdR w.heap.size 22 (cmdD cmdIns) ∧ Below w.heap.size w w' := by
  have hmm := @run_makeMap Tryz.prog
  have b0 : Below w.heap.size w (w.alloc (.map #[] 0)) := (Below.refl _ _).alloc (Nat.le_refl _) _
  have o0 := World.ownsMap_made w Tryz.prog 9 cmdR
  have HB := Lib.hid b0
  have HO := Lib.hid o0
  clear b0 o0
  go_enter Tryz.func11, Tryz.ntmps11
  go_wp2_with (refine wpList_insert_own _ rfl _ _ _ 31 rfl 9 _ strKeyed Tryz.underlying31 cmdR w.heap.size _ _ rfl HO.out (by unfold maxLen; omega) _ _ _ rfl rfl (keyOf_cmd _ (by unfold maxLen; simp)) .nil [] rfl ?_; intro w1 o1 g1; replace HO := Lib.hid o1; replace HB := Lib.hid (below_grown HB.out g1 (Nat.le_refl _) (Nat.le_refl _)); clear o1 g1)
  go_ret
  exact ⟨rfl, HO.out, HB.out⟩
theorem strsT_enc (l : List (List UInt8)) : Tr.sl 1 ((l.map encStr).map Tr.lit) = strsT (l.map ofB) := by
  unfold strsT
  congr 1
  rw [List.map_map, List.map_map]
  exact List.map_congr_left fun x _ => rfl
set_option maxHeartbeats 4000000 in
set_option maxRecDepth 100000 in
theorem iCommandNames_any (w : World) : Calls Tryz.prog 5 #[] w fun e w' => ∃ a c fp, e = .returned (.slice a 22 c) ∧ Below w.heap.size w w' ∧ Own w' (strsT (cmdNames.map ofB)) (.slice a 22 c) fp ∧ In w.heap.size w'.heap.size fp := by
  refine (callsIn_wide (n := 6)).1 ?_
  have hfD : Fence.wide.fn 11 := trivial
  have hfK : Fence.wide.fn 10 := trivial
  have hfS : Fence.wide.fn 9 := trivial
  refine callsIn_of_wp Tryz.func5 rfl trivial ?_ rfl
  simp only [Tryz.ntmps5, List.size_toArray, List.length_cons, List.length_nil, Nat.reduceAdd, Nat.reduceSub, Array.replicate_succ, Array.replicate_zero, List.push_toArray, List.append_toArray, List.nil_append, List.cons_append]
  have HDC : Hid (CallsIn Fence.wide 5 Tryz.prog 11 #[] w fun e w' => e = .returned (.map (some w.heap.size)) ∧ w'.ownsMap Tryz.prog 9 cmdR w.heap.size 22 (cmdD cmdIns) ∧ Below w.heap.size w w') := callsIn_wide.2 (deskCommands_any w)
  gi_wp2_with (first
    | (gi_at_call 11; refine HDC.out.mono ?_; rintro e w1 ⟨rfl, hown, hb1⟩)
    | (gi_at_call 10; refine (Tryz.maps_Keys_10 _ _).mono ?_; rintro e w2 ⟨rfl, rfl⟩)
    | (gi_at_call 9; refine (Tryz.slices_Sorted_keys_9_10 w.heap.size 22 (cmdD cmdIns) cmdR w1 hown (by rw [cmd_size]; unfold maxLen; omega) (by rw [cmd_size]; omega)).mono ?_; rintro e w3 ⟨v, ss, rfl, hS, hrow, hnil, hb⟩))
  rw [cmd_merge hS, cmd_len hS] at hrow
  have hz := hb1.size
  have hz2 : w1.heap.size ≤ (w1.alloc (.cells #[.map (some w.heap.size)] 31)).heap.size := by simp
  obtain ⟨fp, ho, hi, _⟩ := rowOwnB hrow (by decide) (Nat.le_trans hz hz2)
  rw [strsT_enc] at ho
  obtain ⟨a, c, rfl, _, _, _⟩ := Rd.strs (ho.rd hi)
  have hl : (cmdNames.map ofB).length = 22 := by decide
  rw [hl] at ho ⊢
  go_ret
  exact ⟨a, c, fp, rfl, hb1.trans (((below_alloc w1 _).trans (hb.mono hz2)).mono hz), ho, hi⟩
theorem sCommandNames_any (w : World) : Calls Tryz.prog 4 #[] w fun e w' => ∃ a c, e = .returned (.slice a 22 c) ∧ Below w.heap.size w w' ∧ Rd w'.heap.size w' (strsT (cmdNames.map ofB)) (.slice a 22 c) := by
  go_enter Tryz.func4, Tryz.ntmps4
  go_wp2
  go_ret
  refine ⟨_, 22, rfl, below_alloc _ _, ?_⟩
  have k := bkN w #[.string ⟨#[97, 110, 115, 119, 101, 114]⟩, .string ⟨#[97, 110, 116, 101, 110, 110, 97]⟩, .string ⟨#[97, 112, 97, 114, 116]⟩, .string ⟨#[97, 117, 100, 105, 116]⟩, .string ⟨#[98, 97, 110, 100]⟩, .string ⟨#[99, 104, 97, 110, 110, 101, 108]⟩, .string ⟨#[99, 111, 118, 101, 114]⟩, .string ⟨#[100, 97, 121]⟩, .string ⟨#[100, 114, 111, 112]⟩, .string ⟨#[103, 114, 111, 117, 110, 100]⟩, .string ⟨#[104, 101, 108, 112]⟩, .string ⟨#[108, 97, 112, 115, 101]⟩, .string ⟨#[108, 101, 118, 101, 108]⟩, .string ⟨#[108, 105, 99, 101, 110, 99, 101]⟩, .string ⟨#[112, 114, 111, 116, 101, 99, 116]⟩, .string ⟨#[114, 97, 100, 105, 111]⟩, .string ⟨#[114, 101, 113, 117, 101, 115, 116]⟩, .string ⟨#[114, 101, 113, 117, 101, 115, 116, 115]⟩, .string ⟨#[115, 101, 99, 116, 111, 114]⟩, .string ⟨#[115, 101, 99, 116, 111, 114, 115]⟩, .string ⟨#[115, 105, 116, 101]⟩, .string ⟨#[116, 101, 114, 114, 97, 105, 110]⟩] 9
  have h : Reps (w.alloc (.cells #[.string ⟨#[97, 110, 115, 119, 101, 114]⟩, .string ⟨#[97, 110, 116, 101, 110, 110, 97]⟩, .string ⟨#[97, 112, 97, 114, 116]⟩, .string ⟨#[97, 117, 100, 105, 116]⟩, .string ⟨#[98, 97, 110, 100]⟩, .string ⟨#[99, 104, 97, 110, 110, 101, 108]⟩, .string ⟨#[99, 111, 118, 101, 114]⟩, .string ⟨#[100, 97, 121]⟩, .string ⟨#[100, 114, 111, 112]⟩, .string ⟨#[103, 114, 111, 117, 110, 100]⟩, .string ⟨#[104, 101, 108, 112]⟩, .string ⟨#[108, 97, 112, 115, 101]⟩, .string ⟨#[108, 101, 118, 101, 108]⟩, .string ⟨#[108, 105, 99, 101, 110, 99, 101]⟩, .string ⟨#[112, 114, 111, 116, 101, 99, 116]⟩, .string ⟨#[114, 97, 100, 105, 111]⟩, .string ⟨#[114, 101, 113, 117, 101, 115, 116]⟩, .string ⟨#[114, 101, 113, 117, 101, 115, 116, 115]⟩, .string ⟨#[115, 101, 99, 116, 111, 114]⟩, .string ⟨#[115, 101, 99, 116, 111, 114, 115]⟩, .string ⟨#[115, 105, 116, 101]⟩, .string ⟨#[116, 101, 114, 114, 97, 105, 110]⟩] 9)) (((cmdNames.map ofB).map Value.string).map Tr.lit) w.heap.size 0 [] := Reps.lits _ _ _ (fun i hi => by
    rw [Nat.zero_add]
    have k2 : (w.alloc (.cells #[.string ⟨#[97, 110, 115, 119, 101, 114]⟩, .string ⟨#[97, 110, 116, 101, 110, 110, 97]⟩, .string ⟨#[97, 112, 97, 114, 116]⟩, .string ⟨#[97, 117, 100, 105, 116]⟩, .string ⟨#[98, 97, 110, 100]⟩, .string ⟨#[99, 104, 97, 110, 110, 101, 108]⟩, .string ⟨#[99, 111, 118, 101, 114]⟩, .string ⟨#[100, 97, 121]⟩, .string ⟨#[100, 114, 111, 112]⟩, .string ⟨#[103, 114, 111, 117, 110, 100]⟩, .string ⟨#[104, 101, 108, 112]⟩, .string ⟨#[108, 97, 112, 115, 101]⟩, .string ⟨#[108, 101, 118, 101, 108]⟩, .string ⟨#[108, 105, 99, 101, 110, 99, 101]⟩, .string ⟨#[112, 114, 111, 116, 101, 99, 116]⟩, .string ⟨#[114, 97, 100, 105, 111]⟩, .string ⟨#[114, 101, 113, 117, 101, 115, 116]⟩, .string ⟨#[114, 101, 113, 117, 101, 115, 116, 115]⟩, .string ⟨#[115, 101, 99, 116, 111, 114]⟩, .string ⟨#[115, 101, 99, 116, 111, 114, 115]⟩, .string ⟨#[115, 105, 116, 101]⟩, .string ⟨#[116, 101, 114, 114, 97, 105, 110]⟩] 9)).heap[w.heap.size]? = some (.cells ((cmdNames.map ofB).map Value.string).toArray 9 (0, 0)) := k
    exact bkC k2 i (by rw [List.getElem?_toArray, List.getElem?_eq_getElem hi]))
  exact ⟨[w.heap.size], Rep_sl.2 ⟨_, 22, 22, rfl, rfl, Nat.le_refl _, by unfold maxLen; omega, Or.inr ⟨w.heap.size, 0, [], by decide, rfl, rfl, by rw [show (cmdNames.map ofB).map strT = ((cmdNames.map ofB).map Value.string).map Tr.lit by rw [List.map_map]; rfl]; exact h⟩⟩, fun b hb => by simp at hb; subst hb; simp⟩
end Go.Proofs.YtggkcdeclnoaeaaGreatDoor
