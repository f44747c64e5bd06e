/- Contract: the reference puts a value into records. Conditions: rising keys, bounded lengths. -/
import Derived.Test.YtjkpadfolkniaaaGreatDoorInfoR
import Derived.Test.YtjkpadfolkniaaaGreatDoorReg2
import Derived.Test.YtjkpadfolkniaaaGreatDoorBlk
import Derived.Test.YtjkpadfolkniaaaGreatDoorApp2
import Derived.Deep.DeepCutAuto
import Derived.Test.YtjkpadfolkniaaaGreatDoorReg10
import Derived.Test.YtjkpadfolkniaaaGreatDoorOver
import Derived.IntWalk
import Derived.StillTailTactics
import Derived.KernelRfl
import Derived.Test.YtjkpadfolkniaaaGreatDoorReg0
import Derived.Test.YtjkpadfolkniaaaGreatDoorHRecord
import Derived.Laws.StructEq
import Derived.Test.YtjkpadfolkniaaaGreatDoorHRegister
namespace Go.Proofs.YtjkpadfolkniaaaGreatDoor
section
open Go.RowKit
set_option linter.unusedVariables false
set_option linter.unusedSimpArgs false

section
variable (l : List DRecord) (k v : ByteArray)
/-- the place of the key -/
def pq : Nat := posOf DRecord.key l k
def inN (n : Nat) : Bool := eqS v emptyS || decide (pq l k < n)
def newN (n : Nat) : List DRecord := if (!(eqS v emptyS) && decide (pq l k < n)) = true then [⟨k, v⟩] else []
def outN (n : Nat) : List DRecord := (l.take n).filter (fun x => ltS x.key k) ++ (newN l k v n ++ (l.take n).filter (fun x => ltS k x.key))
end
section
variable {l : List DRecord} {k v : ByteArray} {n : Nat}
theorem filt_succ (p : DRecord → Bool) (h : n < l.length) : (l.take (n + 1)).filter p = (l.take n).filter p ++ (if p l[n] = true then [l[n]] else []) := by
  rw [List.take_succ_eq_append_getElem h, List.filter_append]
  congr 1
  by_cases e : p l[n] = true
  · rw [if_pos e]; simp [e]
  · rw [if_neg e]; simp [e]
theorem gt_nil (hr : Rise l) (h : n ≤ pq l k) : (l.take n).filter (fun x => ltS k x.key) = [] := by
  rw [List.filter_eq_nil_iff]
  intro x hx
  obtain ⟨j, hj, rfl⟩ := List.mem_take_iff_getElem.1 hx
  rw [ltS_asymm ((pos_spec hr k).1 j (by omega) (by unfold pq at h; omega))]
  simp
theorem newN_nil (h : n ≤ pq l k) : newN l k v n = [] := by unfold newN; rw [decide_eq_false (by omega)]; simp
/-- a lesser key -/
theorem out_less (hr : Rise l) (hn : n < l.length) (h : ltS l[n].key k = true) : outN l k v (n + 1) = outN l k v n ++ [l[n]] ∧ inN l k v (n + 1) = inN l k v n := by
  have hq : n < pq l k := by
    rcases Nat.lt_or_ge n (pq l k) with e | e
    · exact e
    · have := (pos_spec hr k).2 n hn e; rw [h] at this; cases this
  unfold outN inN
  rw [gt_nil hr (show n ≤ pq l k by omega), gt_nil hr (show n + 1 ≤ pq l k by omega), newN_nil (by omega), newN_nil (by omega), filt_succ _ hn, if_pos h, decide_eq_false (by omega), decide_eq_false (by omega)]
  simp
theorem pq_le_of (hr : Rise l) (hn : n < l.length) (h : ltS l[n].key k = false) : pq l k ≤ n := by
  rcases Nat.lt_or_ge n (pq l k) with e | e
  · have := (pos_spec hr k).1 n hn e; rw [h] at this; cases this
  · exact e
theorem lt_same (hn : n < l.length) (h : ltS l[n].key k = false) : (l.take (n + 1)).filter (fun x => ltS x.key k) = (l.take n).filter (fun x => ltS x.key k) := by
  rw [filt_succ _ hn, if_neg (by rw [h]; simp), List.append_nil]
theorem gt_eq (hn : n < l.length) (h : ltS l[n].key k = false) : (l.take (n + 1)).filter (fun x => ltS k x.key) = (l.take n).filter (fun x => ltS k x.key) ++ (if eqS l[n].key k = true then [] else [l[n]]) := by
  rw [filt_succ _ hn]
  congr 1
  by_cases e : eqS l[n].key k = true
  · rw [if_pos e, eqS_iff.1 e, ltS_irrefl]; rfl
  · rw [if_neg e]
    have : ltS k l[n].key = true := ltS_of_not h (by rw [eqS_false]; intro e2; exact e (by rw [← e2]; exact eqS_refl _))
    rw [if_pos this]
/-- the value is in already -/
theorem out_in (hr : Rise l) (hn : n < l.length) (h : ltS l[n].key k = false) (hd : inN l k v n = true) : outN l k v (n + 1) = outN l k v n ++ (if eqS l[n].key k = true then [] else [l[n]]) ∧ inN l k v (n + 1) = true := by
  have hq := pq_le_of hr hn h
  have hN : newN l k v (n + 1) = newN l k v n := by
    unfold inN at hd
    unfold newN
    rw [decide_eq_true (show pq l k < n + 1 by omega)]
    cases he : eqS v emptyS with
    | true => simp
    | false => rw [he, Bool.false_or] at hd; rw [hd]
  constructor
  · unfold outN
    rw [lt_same hn h, gt_eq hn h, hN]
    simp only [List.append_assoc]
  · unfold inN
    rw [decide_eq_true (show pq l k < n + 1 by omega)]
    simp
/-- the value is put -/
theorem out_put (hr : Rise l) (hn : n < l.length) (h : ltS l[n].key k = false) (hd : inN l k v n = false) : outN l k v (n + 1) = (outN l k v n ++ [⟨k, v⟩]) ++ (if eqS l[n].key k = true then [] else [l[n]]) ∧ inN l k v (n + 1) = true := by
  have hq := pq_le_of hr hn h
  unfold inN at hd
  rw [Bool.or_eq_false_iff, decide_eq_false_iff_not] at hd
  obtain ⟨he, hd⟩ := hd
  have hN : newN l k v (n + 1) = [⟨k, v⟩] := by
    unfold newN
    rw [decide_eq_true (show pq l k < n + 1 by omega), he]
    rfl
  constructor
  · unfold outN
    rw [lt_same hn h, gt_eq hn h, hN, newN_nil (by omega), gt_nil hr (show n ≤ pq l k by omega)]
    simp
  · unfold inN
    rw [decide_eq_true (show pq l k < n + 1 by omega)]
    simp
theorem pq_le (l : List DRecord) (k : ByteArray) : pq l k ≤ l.length := List.countP_le_length
theorem out_end_in (h : inN l k v l.length = true) : outN l k v l.length = putL l k v := by
  unfold outN putL
  rw [List.take_length]
  congr 2
  unfold inN at h
  unfold newN
  cases he : eqS v emptyS with
  | true => simp
  | false => rw [he, Bool.false_or] at h; rw [h]; rfl
theorem out_end_new (hr : Rise l) (h : inN l k v l.length = false) : outN l k v l.length ++ [⟨k, v⟩] = putL l k v := by
  unfold inN at h
  rw [Bool.or_eq_false_iff, decide_eq_false_iff_not] at h
  obtain ⟨he, hd⟩ := h
  have hg := gt_nil hr (show l.length ≤ pq l k by omega)
  rw [List.take_length] at hg
  unfold outN putL
  rw [List.take_length, hg, newN_nil (by omega), he]
  simp
theorem out_zero : outN l k v 0 = [] := by unfold outN; rw [newN_nil (by omega)]; simp
theorem in_zero : inN l k v 0 = eqS v emptyS := by unfold inN; rw [decide_eq_false (by omega), Bool.or_false]
theorem out_len (l : List DRecord) (k v : ByteArray) (n : Nat) : (outN l k v n).length ≤ 2 * l.length + 1 := by
  unfold outN
  have h1 := List.length_filter_le (fun x : DRecord => ltS x.key k) (l.take n)
  have h2 := List.length_filter_le (fun x : DRecord => ltS k x.key) (l.take n)
  have h3 : (newN l k v n).length ≤ 1 := by unfold newN; split <;> simp
  rw [List.length_take] at h1 h2
  simp only [List.length_append]
  omega
end
set_option maxHeartbeats 4000000 in
set_option maxRecDepth 100000 in
theorem l28Put_any (l : List DRecord) (key val : ByteArray) (v : Value) (w : World) (h : Rd w.heap.size w (DRecord.sT l) v) (hn : l.length ≤ 1000) (hr : Rise l) :
    Calls Tryz.prog 49 #[v, .string key, .string val] w fun e w' => ∃ a c fp, e = .returned (.slice a (putL l key val).length c) ∧ Below w.heap.size w w' ∧ Own w' (DRecord.sT (putL l key val)) (.slice a (putL l key val).length c) fp ∧ In w.heap.size w'.heap.size fp := by
  obtain ⟨a, c, rfl, hnc, hcm, hcells⟩ := DRecord.rd h
  have HC := Lib.hid hcells
  have HRI := Lib.hid hr
  clear h hcells hr
  have hnb : (l.length : Int) ≤ 1000 := by omega
  obtain ⟨i0, hi0, hz0, hz1, hz2⟩ := info_parts infoRecord
  have go : ∀ d0 : Bool, eqS val emptyS = d0 → Calls Tryz.prog 49 #[.slice a l.length c, .string key, .string val] w fun e w' => ∃ a c fp, e = .returned (.slice a (putL l key val).length c) ∧ Below w.heap.size w w' ∧ Own w' (DRecord.sT (putL l key val)) (.slice a (putL l key val).length c) fp ∧ In w.heap.size w'.heap.size fp := by
    intro d0 hd0
    have HD0 := Lib.hid hd0
    cases d0
    case false =>
      obtain ⟨n1, n2, n3⟩ := eqS_empty_list hd0
      clear hd0
      have HOL := Lib.hid (out_len l key val)
      go_enter Tryz.func49, Tryz.ntmps49
      go_wp2
      go_loopw [7, 8, 9] (fun ov dv i wr => ∃ (k : Nat), k ≤ l.length ∧ i = .int .i64 k ∧ dv = .bool (inN l key val k) ∧ Below w.heap.size w wr ∧ Grow wr w.heap.size 73 2 ov (outN l key val k).length ((outN l key val k).flatMap DRecord.tr) []) (fun _ _ i wr => l.length - (intOf i).toNat)
      case atStart => exact ⟨0, Nat.zero_le _, rfl, by rw [in_zero, HD0.out], (Below.refl _ _).alloc (Nat.le_refl _) _, by rw [out_zero]; exact ⟨⟨[], own_emptyK w _ _, rfl⟩, List.nodup_nil, fun b h => by simp at h, fun g _ => by simp⟩⟩
      case round =>
        obtain ⟨k, hk, rfl, rfl, hb, hgr⟩ := hrel
        have HB := Lib.hid hb
        have HG := Lib.hid hgr
        have zr := hb.size
        clear hb hgr
        have holk := HOL.out k
        have holk1 := HOL.out (k + 1)
        by_cases hlt : k < l.length
        · obtain ⟨b, off, rfl, hbl, hat⟩ := HC.out (by omega)
          obtain ⟨s0, s1⟩ := hat k hlt
          rw [← HB.out.cell (p := ⟨b, _, none⟩) hbl] at s0 s1
          have yb : b < wr.heap.size := by omega
          clear hat HC
          have j1 : (k : Int) < (l.length : Int) := by omega
          have HLESS := Lib.hid (fun h => out_less (v := val) (k := key) HRI.out hlt h)
          have HIN := Lib.hid (fun h hd => out_in (v := val) (k := key) HRI.out hlt h hd)
          have HPUT := Lib.hid (fun h hd => out_put (v := val) (k := key) HRI.out hlt h hd)
          generalize hON : outN l key val k = ON at *
          generalize hIN : inN l key val k = IN at *
          generalize l[k] = A at *
          clear hON hIN
          by_cases hl : ltS A.key key = true
          · have HX := Lib.hid (HLESS.out hl)
            have le4 : Op.bytesLess A.key.toList key.toList = true := hl
            have he2 : (A.key.toList == key.toList) = false := by
              show eqS A.key key = false
              rw [eqS_false]; intro e; rw [e, ltS_irrefl] at hl; cases hl
            have he3 : (A.key.toList != key.toList) = true := by rw [bne, he2]; rfl
            clear hl HLESS HIN HPUT
            cases IN
            case false =>
              go_wp2_with (at_builtin; refine wpList_append1 rfl (.tmp 43) (.tmp 48) _ rfl (w.heap.size) 73 i0 _ 2 32 Tryz.underlying28 hi0 hz0 hz1 hz2 rfl (by omega) _ _ _ [] rfl HG.out [.string A.key, .string A.value] [strT A.key, strT A.value] [] rfl 1 rfl (fun u hu => by simp at hu; rcases hu with rfl | rfl <;> rfl) (RepV.lits [.string A.key, .string A.value]) List.nodup_nil (fun b h => by simp at h) 0 In.nil In.nil (by simp) (by simp) (by unfold maxLen; omega) (by omega) (by omega) ?_; intro v2 w2 hgn)
              have HGN := Lib.hid hgn
              clear hgn
              go_wp2
              go_roundw
              case rel => exact ⟨k + 1, by omega, by go_num, by rw [HX.out.2], HB.out.trans HGN.out.below, by rw [HX.out.1]; rw [List.length_append, List.flatMap_append]; exact HGN.out.grow⟩
              case measure => simp [intOf]; omega
            case true =>
              go_wp2_with (at_builtin; refine wpList_append1 rfl (.tmp 43) (.tmp 48) _ rfl (w.heap.size) 73 i0 _ 2 32 Tryz.underlying28 hi0 hz0 hz1 hz2 rfl (by omega) _ _ _ [] rfl HG.out [.string A.key, .string A.value] [strT A.key, strT A.value] [] rfl 1 rfl (fun u hu => by simp at hu; rcases hu with rfl | rfl <;> rfl) (RepV.lits [.string A.key, .string A.value]) List.nodup_nil (fun b h => by simp at h) 0 In.nil In.nil (by simp) (by simp) (by unfold maxLen; omega) (by omega) (by omega) ?_; intro v2 w2 hgn)
              have HGN := Lib.hid hgn
              clear hgn
              go_wp2
              go_roundw
              case rel => exact ⟨k + 1, by omega, by go_num, by rw [HX.out.2], HB.out.trans HGN.out.below, by rw [HX.out.1]; rw [List.length_append, List.flatMap_append]; exact HGN.out.grow⟩
              case measure => simp [intOf]; omega
          · replace hl : ltS A.key key = false := Bool.eq_false_iff.2 hl
            have le4 : Op.bytesLess A.key.toList key.toList = false := hl
            cases IN
            case true =>
              have HX := Lib.hid (HIN.out hl rfl)
              clear HLESS HIN HPUT hl
              by_cases he : eqS A.key key = true
              · have he2 : (A.key.toList == key.toList) = true := he
                have he3 : (A.key.toList != key.toList) = false := by rw [bne, he2]; rfl
                rw [if_pos he, List.append_nil] at HX
                clear he
                go_wp2
                go_roundw
                case rel => exact ⟨k + 1, by omega, by go_num, by rw [HX.out.2], HB.out, by rw [HX.out.1]; exact HG.out⟩
                case measure => simp [intOf]; omega
              · replace he : eqS A.key key = false := Bool.eq_false_iff.2 he
                have he2 : (A.key.toList == key.toList) = false := he
                have he3 : (A.key.toList != key.toList) = true := by rw [bne, he2]; rfl
                rw [if_neg (by rw [he]; simp)] at HX
                clear he
                go_wp2_with (at_builtin; refine wpList_append1 rfl (.tmp 43) (.tmp 48) _ rfl (w.heap.size) 73 i0 _ 2 32 Tryz.underlying28 hi0 hz0 hz1 hz2 rfl (by omega) _ _ _ [] rfl HG.out [.string A.key, .string A.value] [strT A.key, strT A.value] [] rfl 1 rfl (fun u hu => by simp at hu; rcases hu with rfl | rfl <;> rfl) (RepV.lits [.string A.key, .string A.value]) List.nodup_nil (fun b h => by simp at h) 0 In.nil In.nil (by simp) (by simp) (by unfold maxLen; omega) (by omega) (by omega) ?_; intro v2 w2 hgn)
                have HGN := Lib.hid hgn
                clear hgn
                go_wp2
                go_roundw
                case rel => exact ⟨k + 1, by omega, by go_num, by rw [HX.out.2], HB.out.trans HGN.out.below, by rw [HX.out.1]; rw [List.length_append, List.flatMap_append]; exact HGN.out.grow⟩
                case measure => simp [intOf]; omega
            case false =>
              have HX := Lib.hid (HPUT.out hl rfl)
              clear HLESS HIN HPUT hl
              by_cases he : eqS A.key key = true
              · have he2 : (A.key.toList == key.toList) = true := he
                have he3 : (A.key.toList != key.toList) = false := by rw [bne, he2]; rfl
                rw [if_pos he, List.append_nil] at HX
                clear he
                go_upto_region 8 with (at_builtin; refine wpList_append1 rfl (.tmp 30) (.tmp 34) _ rfl (w.heap.size) 73 i0 _ 2 32 Tryz.underlying28 hi0 hz0 hz1 hz2 rfl (by omega) _ _ _ [] rfl HG.out [.string key, .string val] [strT key, strT val] [] rfl 1 rfl (fun u hu => by simp at hu; rcases hu with rfl | rfl <;> rfl) (RepV.lits [.string key, .string val]) List.nodup_nil (fun b h => by simp at h) 0 In.nil In.nil (by simp) (by simp) (by unfold maxLen; omega) (by omega) (by omega) ?_; intro v2 w2 hgn)
                have HGN := Lib.hid hgn
                have zn := hgn.size
                have hkp : w2.heap[b]? = wr.heap[b]? := hgn.keep b yb (fun e => by have := (HG.out.block e).1; omega)
                rw [← World.cell?_of_block (w := wr) (w' := w2) (a := ⟨b, off + k * 2, none⟩) hkp] at s0
                rw [← World.cell?_of_block (w := wr) (w' := w2) (a := ⟨b, off + k * 2 + 1, none⟩) hkp] at s1
                clear hgn hkp
                go_wp2
                go_roundw
                case rel => exact ⟨k + 1, by omega, by go_num, by rw [HX.out.2], HB.out.trans HGN.out.below, by rw [HX.out.1]; rw [List.length_append, List.flatMap_append]; exact HGN.out.grow⟩
                case measure => simp [intOf]; omega
              · replace he : eqS A.key key = false := Bool.eq_false_iff.2 he
                have he2 : (A.key.toList == key.toList) = false := he
                have he3 : (A.key.toList != key.toList) = true := by rw [bne, he2]; rfl
                rw [if_neg (by rw [he]; simp)] at HX
                clear he
                go_upto_region 8 with (at_builtin; refine wpList_append1 rfl (.tmp 30) (.tmp 34) _ rfl (w.heap.size) 73 i0 _ 2 32 Tryz.underlying28 hi0 hz0 hz1 hz2 rfl (by omega) _ _ _ [] rfl HG.out [.string key, .string val] [strT key, strT val] [] rfl 1 rfl (fun u hu => by simp at hu; rcases hu with rfl | rfl <;> rfl) (RepV.lits [.string key, .string val]) List.nodup_nil (fun b h => by simp at h) 0 In.nil In.nil (by simp) (by simp) (by unfold maxLen; omega) (by omega) (by omega) ?_; intro v2 w2 hgn)
                have HGN := Lib.hid hgn
                have zn := hgn.size
                have hkp : w2.heap[b]? = wr.heap[b]? := hgn.keep b yb (fun e => by have := (HG.out.block e).1; omega)
                rw [← World.cell?_of_block (w := wr) (w' := w2) (a := ⟨b, off + k * 2, none⟩) hkp] at s0
                rw [← World.cell?_of_block (w := wr) (w' := w2) (a := ⟨b, off + k * 2 + 1, none⟩) hkp] at s1
                have HG2 := Lib.hid hgn.grow
                clear hgn hkp
                go_wp2_with (at_builtin; refine wpList_append1 rfl (.tmp 43) (.tmp 48) _ rfl (w.heap.size) 73 i0 _ 2 32 Tryz.underlying28 hi0 hz0 hz1 hz2 rfl (by omega) _ _ _ [] rfl HG2.out [.string A.key, .string A.value] [strT A.key, strT A.value] [] rfl 1 rfl (fun u hu => by simp at hu; rcases hu with rfl | rfl <;> rfl) (RepV.lits [.string A.key, .string A.value]) List.nodup_nil (fun b h => by simp at h) 0 In.nil In.nil (by simp) (by simp) (by unfold maxLen; omega) (by omega) (by omega) ?_; intro v3 w3 hgn)
                have HGM := Lib.hid hgn
                clear hgn
                go_wp2
                go_roundw
                case rel => exact ⟨k + 1, by omega, by go_num, by rw [HX.out.2], HB.out.trans (HGN.out.below.trans HGM.out.below), by rw [HX.out.1]; rw [List.length_append, List.flatMap_append, List.length_append, List.flatMap_append]; exact HGM.out.grow⟩
                case measure => simp [intOf]; omega
        · obtain rfl : k = l.length := by omega
          clear HC
          cases hin : inN l key val l.length
          case true =>
            have HE := Lib.hid (out_end_in hin)
            clear hin
            rw [HE.out] at HG
            obtain ⟨av, cv, fv, ev, ov, iv⟩ := HG.out.toOwn (lo := w.heap.size) (by omega) In.nil (by omega)
            subst ev
            have OV := Lib.hid ov
            have IV := Lib.hid iv
            clear ov iv
            go_wp2
            go_ret
            exact ⟨av, cv, fv, rfl, HB.out, OV.out, IV.out⟩
          case false =>
            have HE := Lib.hid (out_end_new HRI.out hin)
            clear hin
            go_wp2_with (at_builtin; refine wpList_append1 rfl (.tmp 52) (.tmp 56) _ rfl (w.heap.size) 73 i0 _ 2 32 Tryz.underlying28 hi0 hz0 hz1 hz2 rfl (by omega) _ _ _ [] rfl HG.out [.string key, .string val] [strT key, strT val] [] rfl 1 rfl (fun u hu => by simp at hu; rcases hu with rfl | rfl <;> rfl) (RepV.lits [.string key, .string val]) List.nodup_nil (fun b h => by simp at h) 0 In.nil In.nil (by simp) (by simp) (by unfold maxLen; omega) (by omega) (by omega) ?_; intro v2 w2 hgn)
            have hg2 := hgn.grow
            have BN := Lib.hid hgn.below
            have hg3 : Grow w2 w.heap.size 73 2 v2 (putL l key val).length ((putL l key val).flatMap DRecord.tr) [] := by
              rw [← HE.out, List.length_append, List.flatMap_append]; exact hg2
            obtain ⟨av, cv, fv, ev, ov, iv⟩ := hg3.toOwn (lo := w.heap.size) (by omega) In.nil (by omega)
            subst ev
            have OV := Lib.hid ov
            have IV := Lib.hid iv
            clear ov iv hgn hg2 hg3
            go_wp2
            go_ret
            exact ⟨av, cv, fv, rfl, HB.out.trans BN.out, OV.out, IV.out⟩
    case true =>
      obtain rfl := emptyS_of hd0
      clear hd0
      have HOL := Lib.hid (out_len l key ⟨#[]⟩)
      go_enter Tryz.func49, Tryz.ntmps49
      go_wp2
      go_loopw [7, 8, 9] (fun ov dv i wr => ∃ (k : Nat), k ≤ l.length ∧ i = .int .i64 k ∧ dv = .bool (inN l key ⟨#[]⟩ k) ∧ Below w.heap.size w wr ∧ Grow wr w.heap.size 73 2 ov (outN l key ⟨#[]⟩ k).length ((outN l key ⟨#[]⟩ k).flatMap DRecord.tr) []) (fun _ _ i wr => l.length - (intOf i).toNat)
      case atStart => exact ⟨0, Nat.zero_le _, rfl, by rw [in_zero, HD0.out], (Below.refl _ _).alloc (Nat.le_refl _) _, by rw [out_zero]; exact ⟨⟨[], own_emptyK w _ _, rfl⟩, List.nodup_nil, fun b h => by simp at h, fun g _ => by simp⟩⟩
      case round =>
        obtain ⟨k, hk, rfl, rfl, hb, hgr⟩ := hrel
        have HB := Lib.hid hb
        have HG := Lib.hid hgr
        have zr := hb.size
        clear hb hgr
        have holk := HOL.out k
        have holk1 := HOL.out (k + 1)
        by_cases hlt : k < l.length
        · obtain ⟨b, off, rfl, hbl, hat⟩ := HC.out (by omega)
          obtain ⟨s0, s1⟩ := hat k hlt
          rw [← HB.out.cell (p := ⟨b, _, none⟩) hbl] at s0 s1
          have yb : b < wr.heap.size := by omega
          clear hat HC
          have j1 : (k : Int) < (l.length : Int) := by omega
          have HLESS := Lib.hid (fun h => out_less (v := ⟨#[]⟩) (k := key) HRI.out hlt h)
          have HIN := Lib.hid (fun h hd => out_in (v := ⟨#[]⟩) (k := key) HRI.out hlt h hd)
          have HPUT := Lib.hid (fun h hd => out_put (v := ⟨#[]⟩) (k := key) HRI.out hlt h hd)
          generalize hON : outN l key ⟨#[]⟩ k = ON at *
          generalize hIN : inN l key ⟨#[]⟩ k = IN at *
          generalize l[k] = A at *
          clear hON hIN
          by_cases hl : ltS A.key key = true
          · have HX := Lib.hid (HLESS.out hl)
            have le4 : Op.bytesLess A.key.toList key.toList = true := hl
            have he2 : (A.key.toList == key.toList) = false := by
              show eqS A.key key = false
              rw [eqS_false]; intro e; rw [e, ltS_irrefl] at hl; cases hl
            have he3 : (A.key.toList != key.toList) = true := by rw [bne, he2]; rfl
            clear hl HLESS HIN HPUT
            cases IN
            case false =>
              go_wp2_with (at_builtin; refine wpList_append1 rfl (.tmp 43) (.tmp 48) _ rfl (w.heap.size) 73 i0 _ 2 32 Tryz.underlying28 hi0 hz0 hz1 hz2 rfl (by omega) _ _ _ [] rfl HG.out [.string A.key, .string A.value] [strT A.key, strT A.value] [] rfl 1 rfl (fun u hu => by simp at hu; rcases hu with rfl | rfl <;> rfl) (RepV.lits [.string A.key, .string A.value]) List.nodup_nil (fun b h => by simp at h) 0 In.nil In.nil (by simp) (by simp) (by unfold maxLen; omega) (by omega) (by omega) ?_; intro v2 w2 hgn)
              have HGN := Lib.hid hgn
              clear hgn
              go_wp2
              go_roundw
              case rel => exact ⟨k + 1, by omega, by go_num, by rw [HX.out.2], HB.out.trans HGN.out.below, by rw [HX.out.1]; rw [List.length_append, List.flatMap_append]; exact HGN.out.grow⟩
              case measure => simp [intOf]; omega
            case true =>
              go_wp2_with (at_builtin; refine wpList_append1 rfl (.tmp 43) (.tmp 48) _ rfl (w.heap.size) 73 i0 _ 2 32 Tryz.underlying28 hi0 hz0 hz1 hz2 rfl (by omega) _ _ _ [] rfl HG.out [.string A.key, .string A.value] [strT A.key, strT A.value] [] rfl 1 rfl (fun u hu => by simp at hu; rcases hu with rfl | rfl <;> rfl) (RepV.lits [.string A.key, .string A.value]) List.nodup_nil (fun b h => by simp at h) 0 In.nil In.nil (by simp) (by simp) (by unfold maxLen; omega) (by omega) (by omega) ?_; intro v2 w2 hgn)
              have HGN := Lib.hid hgn
              clear hgn
              go_wp2
              go_roundw
              case rel => exact ⟨k + 1, by omega, by go_num, by rw [HX.out.2], HB.out.trans HGN.out.below, by rw [HX.out.1]; rw [List.length_append, List.flatMap_append]; exact HGN.out.grow⟩
              case measure => simp [intOf]; omega
          · replace hl : ltS A.key key = false := Bool.eq_false_iff.2 hl
            have le4 : Op.bytesLess A.key.toList key.toList = false := hl
            cases IN
            case true =>
              have HX := Lib.hid (HIN.out hl rfl)
              clear HLESS HIN HPUT hl
              by_cases he : eqS A.key key = true
              · have he2 : (A.key.toList == key.toList) = true := he
                have he3 : (A.key.toList != key.toList) = false := by rw [bne, he2]; rfl
                rw [if_pos he, List.append_nil] at HX
                clear he
                go_wp2
                go_roundw
                case rel => exact ⟨k + 1, by omega, by go_num, by rw [HX.out.2], HB.out, by rw [HX.out.1]; exact HG.out⟩
                case measure => simp [intOf]; omega
              · replace he : eqS A.key key = false := Bool.eq_false_iff.2 he
                have he2 : (A.key.toList == key.toList) = false := he
                have he3 : (A.key.toList != key.toList) = true := by rw [bne, he2]; rfl
                rw [if_neg (by rw [he]; simp)] at HX
                clear he
                go_wp2_with (at_builtin; refine wpList_append1 rfl (.tmp 43) (.tmp 48) _ rfl (w.heap.size) 73 i0 _ 2 32 Tryz.underlying28 hi0 hz0 hz1 hz2 rfl (by omega) _ _ _ [] rfl HG.out [.string A.key, .string A.value] [strT A.key, strT A.value] [] rfl 1 rfl (fun u hu => by simp at hu; rcases hu with rfl | rfl <;> rfl) (RepV.lits [.string A.key, .string A.value]) List.nodup_nil (fun b h => by simp at h) 0 In.nil In.nil (by simp) (by simp) (by unfold maxLen; omega) (by omega) (by omega) ?_; intro v2 w2 hgn)
                have HGN := Lib.hid hgn
                clear hgn
                go_wp2
                go_roundw
                case rel => exact ⟨k + 1, by omega, by go_num, by rw [HX.out.2], HB.out.trans HGN.out.below, by rw [HX.out.1]; rw [List.length_append, List.flatMap_append]; exact HGN.out.grow⟩
                case measure => simp [intOf]; omega
            case false =>
              have HX := Lib.hid (HPUT.out hl rfl)
              clear HLESS HIN HPUT hl
              by_cases he : eqS A.key key = true
              · have he2 : (A.key.toList == key.toList) = true := he
                have he3 : (A.key.toList != key.toList) = false := by rw [bne, he2]; rfl
                rw [if_pos he, List.append_nil] at HX
                clear he
                go_upto_region 8 with (at_builtin; refine wpList_append1 rfl (.tmp 30) (.tmp 34) _ rfl (w.heap.size) 73 i0 _ 2 32 Tryz.underlying28 hi0 hz0 hz1 hz2 rfl (by omega) _ _ _ [] rfl HG.out [.string key, .string ⟨#[]⟩] [strT key, strT ⟨#[]⟩] [] rfl 1 rfl (fun u hu => by simp at hu; rcases hu with rfl | rfl <;> rfl) (RepV.lits [.string key, .string ⟨#[]⟩]) List.nodup_nil (fun b h => by simp at h) 0 In.nil In.nil (by simp) (by simp) (by unfold maxLen; omega) (by omega) (by omega) ?_; intro v2 w2 hgn)
                have HGN := Lib.hid hgn
                have zn := hgn.size
                have hkp : w2.heap[b]? = wr.heap[b]? := hgn.keep b yb (fun e => by have := (HG.out.block e).1; omega)
                rw [← World.cell?_of_block (w := wr) (w' := w2) (a := ⟨b, off + k * 2, none⟩) hkp] at s0
                rw [← World.cell?_of_block (w := wr) (w' := w2) (a := ⟨b, off + k * 2 + 1, none⟩) hkp] at s1
                clear hgn hkp
                go_wp2
                go_roundw
                case rel => exact ⟨k + 1, by omega, by go_num, by rw [HX.out.2], HB.out.trans HGN.out.below, by rw [HX.out.1]; rw [List.length_append, List.flatMap_append]; exact HGN.out.grow⟩
                case measure => simp [intOf]; omega
              · replace he : eqS A.key key = false := Bool.eq_false_iff.2 he
                have he2 : (A.key.toList == key.toList) = false := he
                have he3 : (A.key.toList != key.toList) = true := by rw [bne, he2]; rfl
                rw [if_neg (by rw [he]; simp)] at HX
                clear he
                go_upto_region 8 with (at_builtin; refine wpList_append1 rfl (.tmp 30) (.tmp 34) _ rfl (w.heap.size) 73 i0 _ 2 32 Tryz.underlying28 hi0 hz0 hz1 hz2 rfl (by omega) _ _ _ [] rfl HG.out [.string key, .string ⟨#[]⟩] [strT key, strT ⟨#[]⟩] [] rfl 1 rfl (fun u hu => by simp at hu; rcases hu with rfl | rfl <;> rfl) (RepV.lits [.string key, .string ⟨#[]⟩]) List.nodup_nil (fun b h => by simp at h) 0 In.nil In.nil (by simp) (by simp) (by unfold maxLen; omega) (by omega) (by omega) ?_; intro v2 w2 hgn)
                have HGN := Lib.hid hgn
                have zn := hgn.size
                have hkp : w2.heap[b]? = wr.heap[b]? := hgn.keep b yb (fun e => by have := (HG.out.block e).1; omega)
                rw [← World.cell?_of_block (w := wr) (w' := w2) (a := ⟨b, off + k * 2, none⟩) hkp] at s0
                rw [← World.cell?_of_block (w := wr) (w' := w2) (a := ⟨b, off + k * 2 + 1, none⟩) hkp] at s1
                have HG2 := Lib.hid hgn.grow
                clear hgn hkp
                go_wp2_with (at_builtin; refine wpList_append1 rfl (.tmp 43) (.tmp 48) _ rfl (w.heap.size) 73 i0 _ 2 32 Tryz.underlying28 hi0 hz0 hz1 hz2 rfl (by omega) _ _ _ [] rfl HG2.out [.string A.key, .string A.value] [strT A.key, strT A.value] [] rfl 1 rfl (fun u hu => by simp at hu; rcases hu with rfl | rfl <;> rfl) (RepV.lits [.string A.key, .string A.value]) List.nodup_nil (fun b h => by simp at h) 0 In.nil In.nil (by simp) (by simp) (by unfold maxLen; omega) (by omega) (by omega) ?_; intro v3 w3 hgn)
                have HGM := Lib.hid hgn
                clear hgn
                go_wp2
                go_roundw
                case rel => exact ⟨k + 1, by omega, by go_num, by rw [HX.out.2], HB.out.trans (HGN.out.below.trans HGM.out.below), by rw [HX.out.1]; rw [List.length_append, List.flatMap_append, List.length_append, List.flatMap_append]; exact HGM.out.grow⟩
                case measure => simp [intOf]; omega
        · obtain rfl : k = l.length := by omega
          clear HC
          cases hin : inN l key ⟨#[]⟩ l.length
          case true =>
            have HE := Lib.hid (out_end_in hin)
            clear hin
            rw [HE.out] at HG
            obtain ⟨av, cv, fv, ev, ov, iv⟩ := HG.out.toOwn (lo := w.heap.size) (by omega) In.nil (by omega)
            subst ev
            have OV := Lib.hid ov
            have IV := Lib.hid iv
            clear ov iv
            go_wp2
            go_ret
            exact ⟨av, cv, fv, rfl, HB.out, OV.out, IV.out⟩
          case false =>
            have HE := Lib.hid (out_end_new HRI.out hin)
            clear hin
            go_wp2_with (at_builtin; refine wpList_append1 rfl (.tmp 52) (.tmp 56) _ rfl (w.heap.size) 73 i0 _ 2 32 Tryz.underlying28 hi0 hz0 hz1 hz2 rfl (by omega) _ _ _ [] rfl HG.out [.string key, .string ⟨#[]⟩] [strT key, strT ⟨#[]⟩] [] rfl 1 rfl (fun u hu => by simp at hu; rcases hu with rfl | rfl <;> rfl) (RepV.lits [.string key, .string ⟨#[]⟩]) List.nodup_nil (fun b h => by simp at h) 0 In.nil In.nil (by simp) (by simp) (by unfold maxLen; omega) (by omega) (by omega) ?_; intro v2 w2 hgn)
            have hg2 := hgn.grow
            have BN := Lib.hid hgn.below
            have hg3 : Grow w2 w.heap.size 73 2 v2 (putL l key ⟨#[]⟩).length ((putL l key ⟨#[]⟩).flatMap DRecord.tr) [] := by
              rw [← HE.out, List.length_append, List.flatMap_append]; exact hg2
            obtain ⟨av, cv, fv, ev, ov, iv⟩ := hg3.toOwn (lo := w.heap.size) (by omega) In.nil (by omega)
            subst ev
            have OV := Lib.hid ov
            have IV := Lib.hid iv
            clear ov iv hgn hg2 hg3
            go_wp2
            go_ret
            exact ⟨av, cv, fv, rfl, HB.out.trans BN.out, OV.out, IV.out⟩
  exact go _ rfl
end
section
open Go.RowKit
set_option linter.unusedVariables false
set_option linter.unusedSimpArgs false

section
variable {cs : List DChange} {k : Nat} {l : List DRecord}
theorem repN_up (hk : k < cs.length) (h : repN cs k = some l) (hu : upOk changeB dayLe cs k = false) : repN cs (k + 1) = none := by
  unfold repN; rw [h, List.getElem?_eq_getElem hk]; simp only; rw [if_neg (by rw [hu]; simp)]
theorem repN_val (hk : k < cs.length) (h : repN cs k = some l) (hu : upOk changeB dayLe cs k = true) (hv : eqS (valOf l cs[k].key) cs[k].old_ = false) : repN cs (k + 1) = none := by
  unfold repN; rw [h, List.getElem?_eq_getElem hk]; simp only; rw [if_pos hu]; unfold patS; rw [if_neg (by rw [hv]; simp)]
theorem repN_full (hk : k < cs.length) (h : repN cs k = some l) (hu : upOk changeB dayLe cs k = true) (hv : eqS (valOf l cs[k].key) cs[k].old_ = true) (hl : 32 < (putL l cs[k].key cs[k].new_).length) : repN cs (k + 1) = none := by
  unfold repN; rw [h, List.getElem?_eq_getElem hk]; simp only; rw [if_pos hu]; unfold patS; rw [if_pos hv, if_neg (by omega)]
theorem repN_go (hk : k < cs.length) (h : repN cs k = some l) (hu : upOk changeB dayLe cs k = true) (hv : eqS (valOf l cs[k].key) cs[k].old_ = true) (hl : (putL l cs[k].key cs[k].new_).length ≤ 32) : repN cs (k + 1) = some (putL l cs[k].key cs[k].new_) := by
  unfold repN; rw [h, List.getElem?_eq_getElem hk]; simp only; rw [if_pos hu]; unfold patS; rw [if_pos hv, if_pos hl]
theorem repN_none (h : repN cs k = none) : ∀ n, k ≤ n → repN cs n = none := by
  intro n
  induction n with
  | zero => intro hn; obtain rfl : k = 0 := by omega
            exact h
  | succ n ih =>
    intro hn
    by_cases e : k = n + 1
    · rw [← e]; exact h
    · have h2 := ih (by omega)
      unfold repN
      rw [h2]
end
def repR (cs : List DChange) : List DRecord × Bool := match repN cs cs.length with | some l => (l, true) | none => ([], false)
theorem repR_none {cs : List DChange} {k : Nat} (h : repN cs (k + 1) = none) (hk : k < cs.length) : repR cs = ([], false) := by
  unfold repR; rw [repN_none h _ (by omega)]
theorem repR_some {cs : List DChange} {l : List DRecord} (h : repN cs cs.length = some l) : repR cs = (l, true) := by unfold repR; rw [h]
theorem valOf_there {l : List DRecord} {k : ByteArray} (h : eqS (valOf l k) emptyS = false) : ∃ (i : Nat) (hi : i < l.length), eqS l[i].key k = true := by
  unfold valOf at h
  cases hf : l.find? (fun x => eqS x.key k) with
  | none => rw [hf] at h; exact absurd (eqS_refl emptyS) (by rw [h]; simp)
  | some r =>
    obtain ⟨hp, i, hi, he, _⟩ := List.find?_eq_some_iff_getElem.1 hf
    exact ⟨i, hi, by rw [he]; exact hp⟩
/-- an empty value is only given to a key that is there -/
theorem del_there {l : List DRecord} {c : DChange} (hc : changeB c = true) (hv : eqS (valOf l c.key) c.old_ = true) (hn : eqS c.new_ emptyS = true) : ∃ (i : Nat) (hi : i < l.length), eqS l[i].key c.key = true := by
  apply valOf_there
  rw [eqS_iff.1 hv]
  have := changeB_ne hc
  rw [eqS_false] at this ⊢
  rw [eqS_iff.1 hn] at this
  exact this
theorem own_nilR (w : World) : Own w (DRecord.sT []) (.slice none 0 0) [] := ⟨Rep_sl.2 ⟨none, 0, 0, rfl, rfl, Nat.le_refl _, by unfold maxLen; omega, Or.inl ⟨rfl, rfl⟩⟩, List.nodup_nil, fun b h => by simp at h⟩
end
section
open Go.RowKit
set_option linter.unusedVariables false
set_option linter.unusedSimpArgs false

section
variable {l0 l : List DRecord} {cs : List DChange} {k : Nat}
theorem patN_spec (h0 : Rise l0) (hl0 : l0.length ≤ 32) : (k : Nat) → (l : List DRecord) → patN l0 cs k = some l → Rise l ∧ l.length ≤ 32 := by
  intro k
  induction k with
  | zero => intro l h; unfold patN at h; injection h with h; subst h; exact ⟨h0, hl0⟩
  | succ k ih =>
    intro l h
    unfold patN at h
    cases h1 : patN l0 cs k with
    | none => rw [h1] at h; cases h
    | some m =>
      cases h2 : cs[k]? with
      | none => rw [h1, h2] at h; cases h
      | some c =>
        rw [h1, h2] at h
        simp only at h
        obtain ⟨p1, rfl, p3⟩ := patS_some h
        exact ⟨putL_rise (ih m h1).1 _ _, p3⟩
theorem patN_val (hk : k < cs.length) (h : patN l0 cs k = some l) (hv : eqS (valOf l cs[k].key) cs[k].old_ = false) : patN l0 cs (k + 1) = none := by
  unfold patN; rw [h, List.getElem?_eq_getElem hk]; simp only; unfold patS; rw [if_neg (by rw [hv]; simp)]
theorem patN_full (hk : k < cs.length) (h : patN l0 cs k = some l) (hv : eqS (valOf l cs[k].key) cs[k].old_ = true) (hl : 32 < (putL l cs[k].key cs[k].new_).length) : patN l0 cs (k + 1) = none := by
  unfold patN; rw [h, List.getElem?_eq_getElem hk]; simp only; unfold patS; rw [if_pos hv, if_neg (by omega)]
theorem patN_go (hk : k < cs.length) (h : patN l0 cs k = some l) (hv : eqS (valOf l cs[k].key) cs[k].old_ = true) (hl : (putL l cs[k].key cs[k].new_).length ≤ 32) : patN l0 cs (k + 1) = some (putL l cs[k].key cs[k].new_) := by
  unfold patN; rw [h, List.getElem?_eq_getElem hk]; simp only; unfold patS; rw [if_pos hv, if_pos hl]
theorem patN_none (h : patN l0 cs k = none) : ∀ n, k ≤ n → patN l0 cs n = none := by
  intro n
  induction n with
  | zero => intro hn; obtain rfl : k = 0 := by omega
            exact h
  | succ n ih =>
    intro hn
    by_cases e : k = n + 1
    · rw [← e]; exact h
    · have h2 := ih (by omega)
      unfold patN
      rw [h2]
end
/-- what the reference's patch returns -/
def PatQ (r : Option (List DRecord)) (w : World) (e : Ending) (w' : World) : Prop :=
  ∃ (a : Option Addr) (n c : Nat) (code : Int) (fp : List Nat), e = .returned (.tuple #[.slice a n c, .int .i64 code]) ∧ Below w.heap.size w w' ∧ (∀ l, r = some l → code = 0 ∧ n = l.length ∧ Own w' (DRecord.sT l) (.slice a n c) fp ∧ In w.heap.size w'.heap.size fp) ∧ (r = none → (code == 0) = false)
theorem PatQ.none_ {r : Option (List DRecord)} {w w' : World} {e : Ending} {code : Int} (hr : r = none) (he : e = .returned (.tuple #[.slice none 0 0, .int .i64 code])) (hc : (code == 0) = false) (hb : Below w.heap.size w w') : PatQ r w e w' :=
  ⟨none, 0, 0, code, [], he, hb, fun l h => (by rw [hr] at h; cases h), fun _ => hc⟩
end
section
open Go.RowKit
set_option linter.unusedVariables false
set_option linter.unusedSimpArgs false

theorem sameRs_len {l m : List DRecord} (h : l.length ≠ m.length) : sameRs l m = false := by unfold sameRs; rw [decide_eq_false h]; rfl
theorem sameRs_at {l m : List DRecord} {k : Nat} (hl : k < l.length) (hm : k < m.length) (h : sameRec l[k] m[k] = false) : sameRs l m = false := by
  unfold sameRs
  rw [Bool.and_eq_false_iff]
  right
  rw [List.all_eq_false]
  exact ⟨k, by simpa using hl, by rw [List.getElem?_eq_getElem hl, List.getElem?_eq_getElem hm]; simp [h]⟩
theorem sameRs_all {l m : List DRecord} (e : l.length = m.length) (h : ∀ j (hl : j < l.length), sameRec l[j] (m[j]'(by omega)) = true) : sameRs l m = true := by
  unfold sameRs
  rw [decide_eq_true e, Bool.true_and, List.all_eq_true]
  intro j hj
  have hj' : j < l.length := by simpa using hj
  rw [List.getElem?_eq_getElem hj', List.getElem?_eq_getElem (show j < m.length by omega)]
  exact h j hj'
end
section
open Go.RowKit
set_option linter.unusedVariables false
set_option linter.unusedSimpArgs false

theorem regB_repR (r : DRegister) : regB r = (decide (r.changes.length ≤ 48) && ((repR r.changes).2 && sameRs (repR r.changes).1 r.records)) := by
  unfold regB repR
  cases repN r.changes r.changes.length with
  | none => rfl
  | some l => rfl
theorem laterB_pos {r : DRegister} {day : Int} (h : 0 < r.changes.length) : laterB r day = decide (day < (r.changes[r.changes.length - 1]'(by omega)).day) := by
  unfold laterB
  rw [List.getLast?_eq_getElem?, List.getElem?_eq_getElem (by omega)]
theorem laterB_zero {r : DRegister} {day : Int} (h : r.changes.length = 0) : laterB r day = false := by
  unfold laterB
  rw [List.eq_nil_of_length_eq_zero h]
  rfl
set_option maxHeartbeats 2000000 in
set_option maxRecDepth 100000 in
theorem isLater_any (r : DRegister) (day : Int) (v0 v1 : Value) (B : Nat) (w : World) (h1 : Rd B w (DChange.sT r.changes) v1) (hB : B ≤ w.heap.size) (hn1 : r.changes.length ≤ 1048576) :
    Calls Tryz.prog 22 #[.agg #[v0, v1], .int .i64 day] w fun e w' => e = .returned (.bool (laterB r day)) ∧ Below w.heap.size w w' := by
  obtain ⟨A1, C1, rfl, _, _, hcells⟩ := DChange.rd h1
  clear h1
  by_cases h0 : r.changes.length = 0
  · have HE := Lib.hid (laterB_zero (day := day) h0)
    have HN : Hid ((r.changes.length : Int) = 0) := by show _ = _; omega
    clear hcells
    generalize hL : r.changes.length = n at *
    obtain rfl : n = 0 := h0
    clear hL
    go_enter Tryz.func22, Tryz.ntmps22
    go_wp2
    go_ret
    exact ⟨by rw [HE.out]; rfl, below_alloc _ _⟩
  · have HE := Lib.hid (laterB_pos (day := day) (show 0 < r.changes.length by omega))
    have hlt : r.changes.length - 1 < r.changes.length := by omega
    have hpos : 0 < r.changes.length := by omega
    obtain ⟨b, off, rfl, hbl, hat⟩ := hcells hpos
    have s0 := (hat (r.changes.length - 1) hlt).1
    clear hcells hat
    generalize (r.changes[r.changes.length - 1]'(by omega)).day = D at *
    generalize hL : r.changes.length = n at *
    obtain ⟨m, rfl⟩ : ∃ m, n = m + 1 := ⟨n - 1, by omega⟩
    rw [Nat.add_sub_cancel] at s0
    clear hL
    have i3 : decide ((0 : Int) < (m : Int) + 1) = true := decide_eq_true (by omega)
    have i4 : (m : Int) ≤ 1048576 := by omega
    have i5 : (0 : Int) ≤ (m : Int) := by omega
    have i6 : (m : Int) < (m : Int) + 1 := by omega
    have hbw : b < w.heap.size := by omega
    go_enter Tryz.func22, Tryz.ntmps22
    go_wp2
    go_ret
    exact ⟨by rw [HE.out]; rfl, below_alloc _ _⟩
end
end Go.Proofs.YtjkpadfolkniaaaGreatDoor
