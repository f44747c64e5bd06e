/- Contracts: a number put to its place among rising ones, and a drawn domain, of the reference. Conditions: bounded lengths. -/
import Derived.Test.YtpnllibboeeaaaaSrc
import Derived.Test.YtpnllibboeeaaaaProb2
namespace Go.Proofs.Ytpnllibboeeaaaa
open Go.RowKit
set_option linter.unusedVariables false
set_option linter.unusedSimpArgs false

theorem infoI64 : (Try.prog.info? 2).map (fun i => (i.zero, i.size, i.bytes)) = some (some (.int .i64 0), 1, 8) := by kernel_rfl
theorem info_partsI {t : TypeId} {z : Value} {s b : Nat} (h : (Try.prog.info? t).map (fun i => (i.zero, i.size, i.bytes)) = some (some z, s, b)) : ∃ i, Try.prog.info? t = some i ∧ i.zero = some z ∧ i.size = s ∧ i.bytes = b := by
  cases hi : Try.prog.info? t with
  | none => rw [hi] at h; cases h
  | some i =>
    rw [hi] at h
    simp only [Option.map_some, Option.some.injEq, Prod.mk.injEq] at h
    exact ⟨i, rfl, h.1, h.2.1, h.2.2⟩
theorem own_emptyI (w : World) (E : Nat) (cells : Array Value) (c : Nat) (hc : cells.size = c) (hm : c ≤ maxLen) : (w.alloc (.cells cells E)).ownsRow w.heap.size E 1 (.slice (some ⟨w.heap.size, 0, none⟩) 0 c) 0 [] :=
  ⟨rfl, Or.inr ⟨w.heap.size, c, cells, rfl, Nat.le_refl _, by show (w.heap.push _)[w.heap.size]? = _; simp, Nat.zero_le _, hm, by simpa using hc, by simp⟩⟩
theorem grow_roomI (w : World) (E : Nat) (cells : Array Value) (c : Nat) (hc : cells.size = c) (hm : c ≤ maxLen) : Grow (w.alloc (.cells cells E)) w.heap.size E 1 (.slice (some ⟨w.heap.size, 0, none⟩) 0 c) 0 [] [] :=
  ⟨⟨[], own_emptyI w E cells c hc hm, rfl⟩, List.nodup_nil, fun b h => by simp at h, fun g _ => by simp⟩
/-- a number put to its place, once -/
def putL (x : Int) : List Int → List Int
  | [] => [x]
  | a :: r => if x ≤ a then (if x < a then x :: a :: r else a :: r) else a :: putL x r
theorem putL_len (x : Int) : (l : List Int) → (putL x l).length ≤ l.length + 1
  | [] => by simp [putL]
  | a :: r => by
    have := putL_len x r
    unfold putL; split
    · split <;> simp
    · simp; omega
theorem putL_pos (x : Int) : (l : List Int) → 1 ≤ (putL x l).length
  | [] => by simp [putL]
  | a :: r => by
    unfold putL; split
    · split <;> simp
    · simp
theorem putL_mem {x y : Int} : {l : List Int} → y ∈ putL x l → y = x ∨ y ∈ l
  | [], h => by simp [putL] at h; exact Or.inl h
  | a :: r, h => by
    unfold putL at h
    split at h
    · split at h
      · rcases List.mem_cons.1 h with e | e
        · exact Or.inl e
        · exact Or.inr e
      · exact Or.inr h
    · rcases List.mem_cons.1 h with e | e
      · exact Or.inr (by simp [e])
      · rcases putL_mem e with e | e
        · exact Or.inl e
        · exact Or.inr (by simp [e])
theorem putL_inc (x : Int) : {l : List Int} → l.Pairwise (· < ·) → (putL x l).Pairwise (· < ·)
  | [], _ => by simp [putL]
  | a :: r, h => by
    have hp := List.pairwise_cons.1 h
    unfold putL
    split
    · split
      · rename_i hl
        exact List.pairwise_cons.2 ⟨fun y hy => by
          rcases List.mem_cons.1 hy with e | e
          · omega
          · have := hp.1 y e; omega, h⟩
      · exact h
    · rename_i hl
      refine List.pairwise_cons.2 ⟨fun y hy => ?_, putL_inc x hp.2⟩
      rcases putL_mem hy with e | e
      · omega
      · exact hp.1 y e
/-- what the loop has made of the first k numbers -/
def PutS (l : List Int) (x : Int) (k : Nat) (out : List Int) (d : Bool) : Prop := putL x l = out ++ (if d = true then l.drop k else putL x (l.drop k))
theorem PutS.keep {l : List Int} {x : Int} {k : Nat} {out : List Int} (h : PutS l x k out true) (hk : k < l.length) : PutS l x (k + 1) (out ++ [gi l k]) true := by
  unfold PutS at h ⊢
  rw [h, if_pos rfl, if_pos rfl, List.drop_eq_getElem_cons hk, gi_eq hk]; simp
theorem PutS.low {l : List Int} {x : Int} {k : Nat} {out : List Int} (h : PutS l x k out false) (hk : k < l.length) (c : ¬ x ≤ gi l k) : PutS l x (k + 1) (out ++ [gi l k]) false := by
  unfold PutS at h ⊢
  rw [h, if_neg (by simp), if_neg (by simp), List.drop_eq_getElem_cons hk, gi_eq hk, putL, if_neg c]; simp
theorem PutS.same {l : List Int} {x : Int} {k : Nat} {out : List Int} (h : PutS l x k out false) (hk : k < l.length) (c : x ≤ gi l k) (d : ¬ x < gi l k) : PutS l x (k + 1) (out ++ [gi l k]) true := by
  unfold PutS at h ⊢
  rw [h, if_neg (by simp), if_pos rfl, List.drop_eq_getElem_cons hk, gi_eq hk, putL, if_pos c, if_neg d]; simp
theorem PutS.put {l : List Int} {x : Int} {k : Nat} {out : List Int} (h : PutS l x k out false) (hk : k < l.length) (d : x < gi l k) : PutS l x (k + 1) (out ++ [x] ++ [gi l k]) true := by
  unfold PutS at h ⊢
  rw [h, if_neg (by simp), if_pos rfl, List.drop_eq_getElem_cons hk, gi_eq hk, putL, if_pos (by omega), if_pos d]; simp
theorem PutS.end_ {l : List Int} {x : Int} {out : List Int} {d : Bool} (h : PutS l x l.length out d) : putL x l = out ++ (if d = true then [] else [x]) := by
  unfold PutS at h
  rw [h, List.drop_length]; rfl
set_option maxHeartbeats 4000000 in
theorem l00Put_any (l : List Int) (x : Int) (v : Value) (w : World) (h : Rd w.heap.size w (intsT l) v) (hn : l.length ≤ 1048576) :
    Calls Try.prog 44 #[v, .int .i64 x] w fun e w' => ∃ a c fp, e = .returned (.slice a (putL x l).length c) ∧ Below w.heap.size w w' ∧ Own w' (intsT (putL x l)) (.slice a (putL x l).length c) fp ∧ In w.heap.size w'.heap.size fp := by
  obtain ⟨a, c, rfl, _, _, hcells⟩ := h.ints
  clear h
  obtain ⟨i0, hi0, hz0, hz1, hz2⟩ := info_partsI infoI64
  have hB : Hid (Below w.heap.size w (w.alloc (.cells #[] 2))) := (Below.refl _ _).alloc (Nat.le_refl _) _
  go_enter Try.func44, Try.ntmps44
  go_wp2
  go_loopw [5, 6, 7] (fun v dn i wr => ∃ (k : Nat) (out : List Int) (d : Bool), k ≤ l.length ∧ out.length ≤ k + d.toNat ∧ i = .int .i64 k ∧ dn = .bool d ∧ PutS l x k out d ∧ Below w.heap.size w wr ∧ Grow wr w.heap.size 2 1 v out.length (out.map intT) []) (fun _ _ i wr => l.length - (intOf i).toNat)
  case atStart => exact ⟨0, [], false, Nat.zero_le _, by simp, rfl, rfl, by simp [PutS], hB.out, by simpa using grow_roomI w 2 #[] 0 rfl (by unfold maxLen; omega)⟩
  case round =>
    obtain ⟨k, out, d, hk, ho, rfl, rfl, hps, hb, hgr⟩ := hrel
    have HS := Lib.hid hps
    have HB := Lib.hid hb
    have HG := Lib.hid hgr
    have zr := hb.size
    clear hb hgr hps
    have hol : out.length ≤ l.length + 1 := by have : d.toNat ≤ 1 := by cases d <;> decide
                                               omega
    by_cases hlt : k < l.length
    · obtain ⟨cb, off, rfl, hbl, hat⟩ := hcells (by omega)
      have s0 := hat k hlt
      rw [gi_eq hlt] at s0
      rw [← HB.out.cell (p := ⟨cb, _, none⟩) hbl] at s0
      have i1 : (0 : Int) ≤ (k : Int) := by omega
      have i2 : (k : Int) < (l.length : Int) := by omega
      generalize hg : gi l k = g at *
      have HGI := Lib.hid hg
      clear hg hat hcells
      cases d with
      | true =>
        go_wp2_with (at_builtin; refine wpList_append1 rfl (.tmp 35) (.tmp 40) _ rfl (w.heap.size) 2 i0 _ 1 8 Try.underlying28 hi0 hz0 hz1 hz2 rfl (by omega) _ _ _ [] rfl HG.out [.int .i64 g] [intT g] [] rfl 1 rfl (fun u hu => by simp at hu; subst hu; rfl) (RepV.lits [.int .i64 g]) List.nodup_nil (fun b h => by simp at h) 0 In.nil In.nil (by simp) (by simp) (by unfold maxLen; omega) (by omega) (by omega) ?_; intro v2 w2 hgn)
        have HGN := Lib.hid hgn
        clear hgn
        go_wp2
        go_roundw
        case rel =>
          refine ⟨k + 1, out ++ [g], true, by omega, by simp at ho ⊢; omega, by go_num, rfl, ?_, HB.out.trans HGN.out.below, ?_⟩
          · have := HS.out.keep hlt; rw [HGI.out] at this; exact this
          · rw [List.length_append, List.map_append]; exact HGN.out.grow
        case measure => simp [intOf]; omega
      | false =>
        by_cases c1 : x ≤ g
        · have e1 : decide (x ≤ g) = true := decide_eq_true c1
          by_cases c2 : x < g
          · have C2 := Lib.hid c2
            go_wp2_with (at_builtin; first | (refine wpList_append1 rfl (.tmp 31) (.tmp 33) _ rfl (w.heap.size) 2 i0 _ 1 8 Try.underlying28 hi0 hz0 hz1 hz2 rfl (by omega) _ _ _ [] rfl HG.out [.int .i64 x] [intT x] [] rfl 1 rfl (fun u hu => by simp at hu; subst hu; rfl) (RepV.lits [.int .i64 x]) List.nodup_nil (fun b h => by simp at h) 0 In.nil In.nil (by simp) (by simp) (by unfold maxLen; omega) (by omega) (by omega) ?_; intro v2 w2 hgn; have s2 := (bat hgn.below _ _ hbl).trans s0; have z2 := hgn.size; have HGN := Lib.hid hgn; clear hgn) | (refine wpList_append1 rfl (.tmp 35) (.tmp 40) _ rfl (w.heap.size) 2 i0 _ 1 8 Try.underlying28 hi0 hz0 hz1 hz2 rfl (by omega) _ _ _ [] rfl HGN.out.grow [.int .i64 g] [intT g] [] rfl 1 rfl (fun u hu => by simp at hu; subst hu; rfl) (RepV.lits [.int .i64 g]) List.nodup_nil (fun b h => by simp at h) 0 In.nil In.nil (by simp) (by simp) (by unfold maxLen; omega) (by omega) (by omega) ?_; intro v3 w3 hgn3))
            have HB2 := Lib.hid (HB.out.trans HGN.out.below)
            have HGN3 := Lib.hid hgn3
            clear hgn3
            go_wp2
            go_roundw
            case rel =>
              refine ⟨k + 1, out ++ [x] ++ [g], true, by omega, ?_, by go_num, rfl, ?_, HB2.out.trans HGN3.out.below, ?_⟩
              · simp at ho ⊢; omega
              · have := HS.out.put hlt (by rw [HGI.out]; exact C2.out); rw [HGI.out] at this; exact this
              · rw [List.length_append, List.length_append, List.map_append, List.map_append]; exact HGN3.out.grow
            case measure => simp [intOf]; omega
          · have C2 := Lib.hid c2
            have C1 := Lib.hid c1
            have e2 : decide (x < g) = false := decide_eq_false c2
            go_wp2_with (at_builtin; refine wpList_append1 rfl (.tmp 35) (.tmp 40) _ rfl (w.heap.size) 2 i0 _ 1 8 Try.underlying28 hi0 hz0 hz1 hz2 rfl (by omega) _ _ _ [] rfl HG.out [.int .i64 g] [intT g] [] rfl 1 rfl (fun u hu => by simp at hu; subst hu; rfl) (RepV.lits [.int .i64 g]) List.nodup_nil (fun b h => by simp at h) 0 In.nil In.nil (by simp) (by simp) (by unfold maxLen; omega) (by omega) (by omega) ?_; intro v2 w2 hgn)
            have HGN := Lib.hid hgn
            clear hgn
            go_wp2
            go_roundw
            case rel =>
              refine ⟨k + 1, out ++ [g], true, by omega, by simp at ho ⊢; omega, by go_num, rfl, ?_, HB.out.trans HGN.out.below, ?_⟩
              · have := HS.out.same hlt (by rw [HGI.out]; exact C1.out) (by rw [HGI.out]; exact C2.out); rw [HGI.out] at this; exact this
              · rw [List.length_append, List.map_append]; exact HGN.out.grow
            case measure => simp [intOf]; omega
        · have C1 := Lib.hid c1
          have e1 : decide (x ≤ g) = false := decide_eq_false c1
          go_wp2_with (at_builtin; refine wpList_append1 rfl (.tmp 35) (.tmp 40) _ rfl (w.heap.size) 2 i0 _ 1 8 Try.underlying28 hi0 hz0 hz1 hz2 rfl (by omega) _ _ _ [] rfl HG.out [.int .i64 g] [intT g] [] rfl 1 rfl (fun u hu => by simp at hu; subst hu; rfl) (RepV.lits [.int .i64 g]) List.nodup_nil (fun b h => by simp at h) 0 In.nil In.nil (by simp) (by simp) (by unfold maxLen; omega) (by omega) (by omega) ?_; intro v2 w2 hgn)
          have HGN := Lib.hid hgn
          clear hgn
          go_wp2
          go_roundw
          case rel =>
            refine ⟨k + 1, out ++ [g], false, by omega, by simp at ho ⊢; omega, by go_num, rfl, ?_, HB.out.trans HGN.out.below, ?_⟩
            · have := HS.out.low hlt (by rw [HGI.out]; exact C1.out); rw [HGI.out] at this; exact this
            · rw [List.length_append, List.map_append]; exact HGN.out.grow
          case measure => simp [intOf]; omega
    · obtain rfl : k = l.length := by omega
      have HE := Lib.hid HS.out.end_
      clear hcells
      cases d with
      | true =>
        obtain ⟨av, cv, fv, ev, ov, iv⟩ := HG.out.toOwn (lo := w.heap.size) (by omega) In.nil (by omega)
        subst ev
        clear HG
        go_wp2
        go_ret
        have e : putL x l = out := by rw [HE.out]; simp
        rw [e]
        exact ⟨av, cv, rfl, HB.out, fv, ov, iv⟩
      | false =>
        go_wp2_with (at_builtin; refine wpList_append1 rfl (.tmp 44) (.tmp 46) _ rfl (w.heap.size) 2 i0 _ 1 8 Try.underlying28 hi0 hz0 hz1 hz2 rfl (by omega) _ _ _ [] rfl HG.out [.int .i64 x] [intT x] [] rfl 1 rfl (fun u hu => by simp at hu; subst hu; rfl) (RepV.lits [.int .i64 x]) List.nodup_nil (fun b h => by simp at h) 0 In.nil In.nil (by simp) (by simp) (by unfold maxLen; omega) (by omega) (by omega) ?_; intro v2 w2 hgn)
        have HGN := Lib.hid hgn
        clear hgn
        obtain ⟨av, cv, fv, ev, ov, iv⟩ := HGN.out.grow.toOwn (lo := w.heap.size) (by omega) In.nil (by omega)
        have BW := Lib.hid (HB.out.trans HGN.out.below)
        subst ev
        clear HGN
        go_wp2
        go_ret
        have e : putL x l = out ++ [x] := by rw [HE.out]; simp
        rw [e]
        refine ⟨av, cv, fv, by simp, BW.out, ?_, iv⟩
        rw [List.length_append, intsT, List.map_append]
        exact ov
/-- rising numbers below 12 -/
structure Dom12 (d : List Int) (m : Nat) : Prop where
  pos : 1 ≤ d.length
  len : d.length ≤ m
  inc : d.Pairwise (· < ·)
  rng : ∀ y ∈ d, 0 ≤ y ∧ y < 12
theorem Dom12.put {d : List Int} {m : Nat} (h : Dom12 d m) {x : Int} (h0 : 0 ≤ x) (h1 : x < 12) : Dom12 (putL x d) (m + 1) :=
  ⟨putL_pos x d, Nat.le_trans (putL_len x d) (by have := h.len; omega), putL_inc x h.inc, fun y hy => by
    rcases putL_mem hy with e | e
    · omega
    · exact h.rng y e⟩
theorem Dom12.mono {d : List Int} {m n : Nat} (h : Dom12 d m) (hn : m ≤ n) : Dom12 d n := ⟨h.pos, Nat.le_trans h.len hn, h.inc, h.rng⟩
theorem Dom12.dom {d : List Int} {m : Nat} (h : Dom12 d m) (hm : m ≤ 32) : domB d = true := by
  have hp := h.pos
  have hl := h.len
  unfold domB risesB
  rw [decide_eq_true (by omega), decide_eq_true (by omega), Bool.true_and, Bool.true_and, Bool.and_eq_true, incB_iff, all_iff]
  refine ⟨fun i hi => ?_, fun i hi => ?_⟩
  · have := (List.pairwise_iff_getElem.1 h.inc) i (i + 1) (by omega) hi (by omega)
    rwa [gi_eq (by omega), gi_eq hi] at this
  · have := h.rng d[i] (List.getElem_mem hi)
    rw [gi_eq hi] at this
    exact inB_true.2 (by omega)
set_option maxHeartbeats 4000000 in
theorem l17DrawDomain_any (b k : Nat) (w : World) (h : Src w b k) (hk : k ≤ 1099511000000) :
    Calls Try.prog 31 #[.pointer (some ⟨b, 0, none⟩)] w fun e w' => ∃ (d : List Int) (a : Option Addr) (c : Nat) (fp : List Nat), Dom12 d 9 ∧ e = .returned (.slice a d.length c) ∧ Own w' (intsT d) (.slice a d.length c) fp ∧ In w.heap.size w'.heap.size fp ∧ SrcQ b k 40 w w' := by
  have HS := Lib.hid h
  have yb := h.lt
  clear h
  have HP := Lib.hid fun (k' : Nat) (n : Int) (W : World) (h1 : Src W b k') (h2 : k' ≤ k + 40) (h3 : 1 ≤ n) (h4 : n ≤ 100) => pick_pos b k' n W h1 (by omega) h3 (by omega)
  go_enter Try.func31, Try.ntmps31
  go_wp2_with (fail)
  go_at_call 30
  refine (HP.out k 12 w HS.out (by omega) (by omega) (by omega)).mono ?_
  rintro e w1 ⟨⟨x, hx0, hx1, rfl⟩, k1, g1, g2, S1, C1⟩
  clear HS
  have HX := Lib.hid (And.intro hx0 hx1)
  have HS := Lib.hid S1
  have HC := Lib.hid C1
  have z1 := C1.size
  clear S1 C1 hx0 hx1
  go_wp2_with (fail)
  go_at_call 30
  have BA : Hid (Below w1.heap.size w1 (w1.alloc (.cells #[.int .i64 x] 2))) := (Below.refl _ _).alloc (Nat.le_refl _) _
  have HSA : Hid (Src (w1.alloc (.cells #[.int .i64 x] 2)) b k1) := HS.out.below HS.out.lt BA.out
  have HCA : Hid (Chg [b] w (w1.alloc (.cells #[.int .i64 x] 2))) := HC.out.alloc _
  have HOA : Hid (Own (w1.alloc (.cells #[.int .i64 x] 2)) (intsT [x]) (.slice (some ⟨w1.heap.size, 0, none⟩) 1 1) [w1.heap.size]) := by
    refine ⟨Rep_sl.2 ⟨_, 1, 1, rfl, rfl, Nat.le_refl _, by unfold maxLen; omega, Or.inr ⟨w1.heap.size, 0, [], by simp, rfl, rfl, Reps_cons.2 ⟨.int .i64 x, [], [], by simp [go_sem], Rep_lit.2 ⟨rfl, rfl⟩, Reps_nil.2 rfl, rfl⟩⟩⟩, by simp, fun y hy i => ?_⟩
    simp at hy; subst hy; simp [go_sem]
  generalize hwA : w1.alloc (.cells #[.int .i64 x] 2) = wA at *
  have zA : wA.heap.size = w1.heap.size + 1 := by rw [← hwA]; simp
  clear hwA BA HC HS
  refine (HP.out k1 8 wA HSA.out (by omega) (by omega) (by omega)).mono ?_
  rintro e w2 ⟨⟨m, hm0, hm1, rfl⟩, k2, g3, g4, S2, C2⟩
  have HS := Lib.hid S2
  have HC := Lib.hid (HCA.out.trans C2)
  have hO := HOA.out.chg (lo := w.heap.size) (hi := wA.heap.size) (fun y hy => by simp at hy; subst hy; omega) (Nat.le_refl _) C2 (fun y hy => by simp at hy ⊢; omega)
  have z2 := C2.size
  clear S2 C2 HSA HCA HOA
  obtain ⟨j0, rfl⟩ := Int.eq_ofNat_of_zero_le hm0
  have HD0 : Hid (Dom12 [x] 1) := ⟨by simp, by simp, by simp, fun y hy => by simp at hy; subst hy; exact HX.out⟩
  have HO := Lib.hid hO
  clear hO
  have hj0 : j0 ≤ 7 := by omega
  have hw1 : w.heap.size ≤ w1.heap.size := by omega
  have HPT := Lib.hid fun (l : List Int) (x : Int) (v : Value) (W : World) (h : Rd W.heap.size W (intsT l) v) (hn : l.length ≤ 1048576) => l00Put_any l x v W h hn
  go_wp2_with (fail)
  go_loopw [3, 4] (fun v mv wr => ∃ (d : List Int) (a : Option Addr) (c : Nat) (fp : List Nat) (j k' : Nat), v = .slice a d.length c ∧ mv = .int .i64 (j : Int) ∧ j ≤ 7 ∧ Dom12 d (8 - j) ∧ Own wr (intsT d) (.slice a d.length c) fp ∧ In w.heap.size wr.heap.size fp ∧ k ≤ k' ∧ k' ≤ k + 4 + 2 * (7 - j) ∧ Src wr b k' ∧ Chg [b] w wr) (fun _ mv wr => (intOf mv).toNat)
  case atStart => exact ⟨[x], _, _, _, j0, k2, rfl, rfl, hj0, HD0.out.mono (by omega), HO.out, fun y hy => by simp at hy; omega, by omega, by omega, HS.out, HC.out⟩
  case round =>
    clear HS HC HO HD0
    obtain ⟨d, a, c, fp, j, k', rfl, rfl, hj, hd, ho, hi, q1, q2, S3, C3⟩ := hrel
    have HD := Lib.hid hd
    have HO := Lib.hid ho
    have HI := Lib.hid hi
    have HS := Lib.hid S3
    have HC := Lib.hid C3
    have yr := S3.lt
    have zr := C3.size
    clear hd ho hi S3 C3
    by_cases hlt : 0 < j
    · have hji : (0 : Int) < (j : Int) := by omega
      go_wp2_with (fail)
      go_at_call 30
      refine (HP.out k' 12 wr HS.out (by omega) (by omega) (by omega)).mono ?_
      rintro e w4 ⟨⟨y, hy0, hy1, rfl⟩, k4, g5, g6, S4, C4⟩
      have HY := Lib.hid (And.intro hy0 hy1)
      have z4 := C4.size
      have hO4 := HO.out.chg HI.out (Nat.le_refl _) C4 (fun z hz => by have := HI.out z hz; simp; omega)
      have hI4 := HI.out.mono (Nat.le_refl _) z4
      have HS4 := Lib.hid S4
      have HC4 := Lib.hid (HC.out.trans C4)
      have HR4 := Lib.hid (hO4.rd hI4)
      clear hO4 hI4 S4 C4 HO HI HS HC hy0 hy1
      go_wp2_with (fail)
      go_at_call 44
      refine (HPT.out d y _ w4 HR4.out (by have := HD.out.len; omega)).mono ?_
      rintro e w5 ⟨a5, c5, f5, rfl, hb5, ho5, hi5⟩
      have HB5 := Lib.hid hb5
      have HO5 := Lib.hid ho5
      have HI5 := Lib.hid hi5
      clear hb5 ho5 hi5
      go_wp2
      go_roundw
      case rel =>
        exact ⟨putL y d, _, _, _, j - 1, k4, rfl, by go_num, by omega, (HD.out.put HY.out.1 HY.out.2).mono (by omega), HO5.out, HI5.out.mono (by omega) (Nat.le_refl _), by omega, by omega, HS4.out.below HS4.out.lt HB5.out, HC4.out.trans (Chg.of_below HB5.out)⟩
      case measure => simp [intOf]; omega
    · go_wp2
      go_ret
      exact ⟨d, a, c, fp, HD.out.mono (by omega), rfl, HO.out, HI.out, k', q1, by omega, HS.out, HC.out⟩
end Go.Proofs.Ytpnllibboeeaaaa
