/- The walk of the law FnProblems: it returns true. -/
import Derived.Test.YtpnllibboeeaaaaFp3
import Derived.Test.YtpnllibboeeaaaaFp5
import Derived.Test.YtpnllibboeeaaaaFp6
import Derived.Test.YtpnllibboeeaaaaMk
import Derived.Deep.RegionHeld3
namespace Go.Proofs.Ytpnllibboeeaaaa.fnProblems
open Go.RowKit
set_option linter.unusedVariables false
set_option linter.unusedSimpArgs false

/-- a problem that is read -/
structure PRd (B : Nat) (w : World) (p : DProblem) (v0 v1 : Value) : Prop where
  d : Rd B w (intssT p.domains) v0
  a : Rd B w (intssT p.apart) v1
theorem PRd.below {B : Nat} {w w' : World} {p : DProblem} {v0 v1 : Value} (h : PRd B w p v0 v1) (hb : Below B w w') : PRd B w' p v0 v1 := ⟨h.d.below hb, h.a.below hb⟩
theorem PRd.mono {B C : Nat} {w : World} {p : DProblem} {v0 v1 : Value} (h : PRd B w p v0 v1) (hB : B ≤ C) : PRd C w p v0 v1 := ⟨h.d.mono hB, h.a.mono hB⟩
def NewR (r : DProblem) (c : Int) (W : World) (e : Ending) (w' : World) : Prop :=
  ∃ (a1 : Option Addr) (c1 : Nat) (a2 : Option Addr) (c2 : Nat), e = .returned (.tuple #[.agg #[.slice a1 r.domains.length c1, .slice a2 r.apart.length c2], .int .i64 c]) ∧ Below W.heap.size W w' ∧ PRd w'.heap.size w' r (.slice a1 r.domains.length c1) (.slice a2 r.apart.length c2)
theorem newR_of {r : DProblem × Int} {W : World} {e : Ending} {w' : World} (h : NewP r W e w') : NewR r.1 r.2 W e w' := by
  obtain ⟨a1, c1, a2, c2, f1, f2, he, hb, o1, o2, i1, i2, _⟩ := h
  exact ⟨a1, c1, a2, c2, he, hb, ⟨o1.rd i1, o2.rd i2⟩⟩
def NewO (r : DProblem) (c : Int) (W : World) (e : Ending) (w' : World) : Prop :=
  ∃ (a1 : Option Addr) (c1 : Nat) (a2 : Option Addr) (c2 : Nat) (fp : List Nat), e = .returned (.tuple #[.agg #[.slice a1 r.domains.length c1, .slice a2 r.apart.length c2], .int .i64 c]) ∧ Below W.heap.size W w' ∧ OwnV w' [intssT r.domains, intssT r.apart] [.slice a1 r.domains.length c1, .slice a2 r.apart.length c2] fp ∧ In W.heap.size w'.heap.size fp
theorem newO_of {r : DProblem × Int} {W : World} {e : Ending} {w' : World} (h : NewP r W e w') : NewO r.1 r.2 W e w' := by
  obtain ⟨a1, c1, a2, c2, f1, f2, he, hb, o1, o2, i1, i2, hd⟩ := h
  exact ⟨a1, c1, a2, c2, f1 ++ (f2 ++ []), he, hb, OwnV.cons o1 (OwnV.cons o2 OwnV.nil (fun x _ h => by simp at h)) (fun x hx h => hd x hx (by simpa using h)), i1.append (i2.append In.nil)⟩
theorem prd_of {w : World} {p : DProblem} {v0 v1 : Value} {fp : List Nat} {lo hi : Nat} (h : OwnV w [intssT p.domains, intssT p.apart] [v0, v1] fp) (hi' : In lo hi fp) (hB : hi ≤ w.heap.size) : PRd w.heap.size w p v0 v1 := by
  obtain ⟨f, g, rfl, o1, k, _⟩ := h.uncons
  obtain ⟨f', g', rfl, o2, _, _⟩ := k.uncons
  exact ⟨(o1.rd (lo := lo) (hi := hi) (fun x hx => hi' x (by simp [hx]))).mono hB, (o2.rd (lo := lo) (hi := hi) (fun x hx => hi' x (by simp [hx]))).mono hB⟩
/-- the first k choices -/
structure Cho (p : DProblem) (k : Nat) (l is : List Int) : Prop where
  len : l.length = k
  mem : ∀ q, q < k → gi l q ∈ row p.domains q
  ilen : is.length ≤ k
  inc : incB is = true
  rng : ∀ q, q < is.length → 0 ≤ gi is q ∧ gi is q < k
  ne : 0 < k → 1 ≤ is.length
theorem gi_app_lt {l : List Int} {x : Int} {q : Nat} (h : q < l.length) : gi (l ++ [x]) q = gi l q := by unfold gi; rw [List.getD_eq_getElem?_getD, List.getD_eq_getElem?_getD, List.getElem?_append_left h]
theorem gi_app_eq {l : List Int} {x : Int} : gi (l ++ [x]) l.length = x := by unfold gi; rw [List.getD_eq_getElem?_getD, List.getElem?_append_right (Nat.le_refl _)]; simp
theorem Cho.start (p : DProblem) : Cho p 0 [] [] := ⟨rfl, fun q h => by omega, Nat.le_refl _, rfl, fun q h => by simp at h, fun h => by omega⟩
theorem Cho.list {p : DProblem} {k : Nat} {l is : List Int} (h : Cho p k l is) {x : Int} (hx : x ∈ row p.domains k) : (l ++ [x]).length = k + 1 ∧ ∀ q, q < k + 1 → gi (l ++ [x]) q ∈ row p.domains q := by
  refine ⟨by simp [h.len], fun q hq => ?_⟩
  by_cases e : q = k
  · have := @gi_app_eq l x
    rw [h.len] at this
    rw [e, this]; exact hx
  · rw [gi_app_lt (by rw [h.len]; omega)]; exact h.mem q (by omega)
theorem Cho.with {p : DProblem} {k : Nat} {l is : List Int} (h : Cho p k l is) {x : Int} (hx : x ∈ row p.domains k) : Cho p (k + 1) (l ++ [x]) (is ++ [(k : Int)]) := by
  obtain ⟨h1, h2⟩ := h.list hx
  refine ⟨h1, h2, by simp; exact h.ilen, ?_, fun q hq => ?_, fun _ => by simp⟩
  · rw [incB_iff]
    intro i hi
    simp at hi
    by_cases e : i + 1 = is.length
    · have := @gi_app_eq is (k : Int)
      rw [← e] at this
      rw [this, gi_app_lt (by omega)]
      exact (h.rng i (by omega)).2
    · rw [gi_app_lt (by omega), gi_app_lt (by omega)]
      exact (incB_iff _).1 h.inc i (by omega)
  · simp at hq
    by_cases e : q = is.length
    · rw [e, gi_app_eq]; omega
    · rw [gi_app_lt (by omega)]
      have := h.rng q (by omega)
      omega
theorem Cho.without {p : DProblem} {k : Nat} {l is : List Int} (h : Cho p k l is) {x : Int} (hx : x ∈ row p.domains k) (hk : 0 < k) : Cho p (k + 1) (l ++ [x]) is := by
  obtain ⟨h1, h2⟩ := h.list hx
  exact ⟨h1, h2, by have := h.ilen; omega, h.inc, fun q hq => by have := h.rng q hq; omega, fun _ => h.ne hk⟩
theorem shortL_take (l is : List Int) {k : Nat} (h : k < is.length) : (shortL l is).take (k + 1) = (shortL l is).take k ++ [gi l (gi is k).toNat] := by
  have h2 : k < (shortL l is).length := by simpa [shortL] using h
  rw [List.take_succ_eq_append_getElem h2, gi_eq h2, shortL_gi _ _ _ h]
theorem cell_lt' {w : World} {b o : Nat} {v : Value} (h : w.cell? ⟨b, o, none⟩ = some v) : b < w.heap.size := by
  rcases Nat.lt_or_ge b w.heap.size with hlt | hge
  · exact hlt
  · unfold World.cell? at h
    rw [Array.getElem?_eq_none hge] at h
    simp at h
theorem Cho.asg {p : DProblem} {l is : List Int} (h : Cho p p.domains.length l is) : AsgOk p l := ⟨h.len, fun i hi => h.mem i (by rw [← h.len]; exact hi)⟩
theorem Cho.items {p : DProblem} {l is : List Int} (hv : ValidP p) (h : Cho p p.domains.length l is) : ItemsOk is p.domains.length := ⟨h.ne hv.n1, h.ilen, h.inc, h.rng⟩
set_option maxHeartbeats 8000000 in
set_option maxRecDepth 100000 in
theorem walk (code more : List UInt8) (v0 v1 : Value) (w : World) (h0 : Rd w.heap.size w (bsT code) v0) (h1 : Rd w.heap.size w (bsT more) v1) :
    Calls Try.prog 3 #[v0, v1] w fun e w' => e = .returned (.bool true) ∧ Below w.heap.size w w' := by
  obtain ⟨j0, hj0, hy0, hy1, hy2⟩ := info_partsI infoI64
  have HLG := Lib.hid (r8Long_any code more v0 v1 w h0 h1)
  have HP := Lib.hid (R8Problem_any code v0 w h0)
  have HM1 := Lib.hid h1
  obtain ⟨x0, y0, rfl, _, _, _⟩ := h0.bs
  obtain ⟨x1, y1, rfl, _, _, _⟩ := h1.bs
  clear h0 h1
  cases hlong : longB code more with
  | true =>
    rw [hlong] at HLG
    go_enter Try.func3, Try.ntmps3
    go_wp2_with (fail)
    go_at_call 4
    refine HLG.out.mono ?_
    rintro e w' ⟨rfl, rfl⟩
    go_wp2_with (fail)
    go_ret
    exact ⟨rfl, Below.refl _ _⟩
  | false =>
    rw [hlong] at HLG
    clear hlong
    go_enter Try.func3, Try.ntmps3
    go_wp2_with (fail)
    go_at_call 4
    refine HLG.out.mono ?_
    rintro e w' ⟨rfl, rfl⟩
    go_wp2_with (fail)
    go_at_call 5
    refine HP.out.mono ?_
    rintro e w1 ⟨p, hv, h6, ⟨a0, c0, a1, c1, f0, f1, rfl, o0, o1, i0, i1, -⟩, hb1⟩
    have HV := Lib.hid hv
    have B1 := Lib.hid hb1
    have hn1 := hv.n1
    have z1 := hb1.size
    have r0 := o0.rd i0
    have r1 := o1.rd i1
    have bA := below_alloc w1 (.cells #[.slice a0 p.domains.length c0, .slice a1 p.apart.length c1] 26)
    have KB := Lib.hid (bkN w1 #[.slice a0 p.domains.length c0, .slice a1 p.apart.length c1] 26)
    have HR0 : Hid (PRd (w1.alloc (.cells #[.slice a0 p.domains.length c0, .slice a1 p.apart.length c1] 26)).heap.size (w1.alloc (.cells #[.slice a0 p.domains.length c0, .slice a1 p.apart.length c1] 26)) p (.slice a0 p.domains.length c0) (.slice a1 p.apart.length c1)) := ⟨(r0.below bA).mono bA.size, (r1.below bA).mono bA.size⟩
    have HMA : Hid (Rd (w1.alloc (.cells #[.slice a0 p.domains.length c0, .slice a1 p.apart.length c1] 26)).heap.size (w1.alloc (.cells #[.slice a0 p.domains.length c0, .slice a1 p.apart.length c1] 26)) (bsT more) (.slice x1 more.length y1)) := (HM1.out.below (hb1.trans (bA.mono z1))).mono (by have := bA.size; omega)
    have BA : Hid (Below w.heap.size w (w1.alloc (.cells #[.slice a0 p.domains.length c0, .slice a1 p.apart.length c1] 26))) := hb1.trans (bA.mono z1)
    have zA : w1.heap.size < (w1.alloc (.cells #[.slice a0 p.domains.length c0, .slice a1 p.apart.length c1] 26)).heap.size := by simp
    clear HP HLG HM1 hv hb1 o0 o1 i0 i1 r0 r1 bA B1
    go_upto_region 4 with (fail)
    generalize w1.alloc (.cells #[.slice a0 p.domains.length c0, .slice a1 p.apart.length c1] 26) = V at *
    obtain ⟨s0, s1⟩ : V.cell? ⟨w1.heap.size, 0, none⟩ = some (.slice a0 p.domains.length c0) ∧ V.cell? ⟨w1.heap.size, 1, none⟩ = some (.slice a1 p.apart.length c1) := ⟨bkC KB.out 0 rfl, bkC KB.out 1 rfl⟩
    have bL : Below V.heap.size V ((V.alloc (.cells #[] 2)).alloc (.cells #[] 2)) := ((Below.refl _ _).alloc (Nat.le_refl _) _).alloc (by simp) _
    have GL : Hid (Grow ((V.alloc (.cells #[] 2)).alloc (.cells #[] 2)) V.heap.size 2 1 (.slice (some ⟨V.heap.size, 0, none⟩) 0 0) 0 [] []) := (grow_roomI V 2 #[] 0 rfl (by unfold maxLen; omega)).below (lo := 0) In.nil (below_alloc (V.alloc (.cells #[] 2)) _)
    have GI : Hid (Grow ((V.alloc (.cells #[] 2)).alloc (.cells #[] 2)) V.heap.size 2 1 (.slice (some ⟨V.heap.size + 1, 0, none⟩) 0 0) 0 [] []) := by
      have g := grow_roomI (V.alloc (.cells #[] 2)) 2 #[] 0 rfl (by unfold maxLen; omega)
      rw [show (V.alloc (.cells #[] 2)).heap.size = V.heap.size + 1 by simp] at g
      obtain ⟨xs, ⟨hl, hor⟩, hr⟩ := g.own
      refine ⟨⟨xs, ⟨hl, ?_⟩, hr⟩, g.nd, g.free, g.far⟩
      rcases hor with h | ⟨g', cap, cur, hv', hb', r⟩
      · exact Or.inl h
      · exact Or.inr ⟨g', cap, cur, hv', by omega, r⟩
    have BL := Lib.hid bL
    clear bL
    go_wp2_with (fail)
    go_loopw [7, 8, 9] (fun lv sv iv wr => ∃ (k : Nat) (l is : List Int), k ≤ p.domains.length ∧ iv = .int .i64 (k : Int) ∧ Cho p k l is ∧ Below V.heap.size V wr ∧ Grow wr V.heap.size 2 1 lv l.length (l.map intT) [] ∧ Grow wr V.heap.size 2 1 sv is.length (is.map intT) [] ∧ ∀ y, lv.ownBlock = some y → sv.ownBlock ≠ some y) (fun _ _ iv wr => p.domains.length - (intOf iv).toNat)
    case atStart => exact ⟨0, [], [], Nat.zero_le _, rfl, Cho.start p, BL.out, by simpa using GL.out, by simpa using GI.out, fun y h => by simp [Value.ownBlock] at h ⊢; omega⟩
    case round =>
      clear BL GL GI
      obtain ⟨k, l, is, hk, rfl, hcho, hb, hgl, hgi, hdj⟩ := hrel
      have HC := Lib.hid hcho
      have HB := Lib.hid hb
      have HGL := Lib.hid hgl
      have HGI := Lib.hid hgi
      have HDJ := Lib.hid hdj
      have zr := hb.size
      have hll := hcho.len
      have hil := hcho.ilen
      have HLL := Lib.hid hll
      have hl6 : l.length ≤ 6 := by omega
      have hi6 : is.length ≤ 6 := by omega
      clear hcho hb hgl hgi hdj hll
      by_cases hlt : k < p.domains.length
      · have hki : (k : Int) < (p.domains.length : Int) := by omega
        have k1 : (0 : Int) ≤ (k : Int) := by omega
        have hrw := (domB_bd (HV.out.dom k hlt))
        have hr32 := hrw.2.1
        have hr1 := hrw.1
        obtain ⟨_, _, hva, _, _, hdc⟩ := HR0.out.d.rowAt
        injection hva with e1 _ e2
        subst e1 e2
        obtain ⟨bd, od, rfl, hbd, hat⟩ := hdc (by omega)
        obtain ⟨ad, cd, u0, _, _, hrd, hcol⟩ := hat k hlt
        have hx := r8V_bd more (k : Int) ((row p.domains k).length : Int) (by omega)
        have CR : Hid (∀ W, Below V.heap.size V W → Calls Try.prog 6 #[.slice x1 more.length y1, .int .i64 (k : Int), .int .i64 ((row p.domains k).length : Int)] W fun e w' => e = .returned (.int .i64 (r8V more (k : Int) ((row p.domains k).length : Int))) ∧ W = w') := fun W hW => r8At_any more (k : Int) _ _ W ((HMA.out.below hW).mono hW.size) (by omega) (by unfold I64; omega)
        have CR2 : Hid (∀ W, Below V.heap.size V W → Calls Try.prog 6 #[.slice x1 more.length y1, .int .i64 (10 + (k : Int)), .int .i64 2] W fun e w' => e = .returned (.int .i64 (r8V more (10 + (k : Int)) 2)) ∧ W = w') := fun W hW => r8At_any more (10 + (k : Int)) _ _ W ((HMA.out.below hW).mono hW.size) (by omega) (by unfold I64; omega)
        generalize r8V more (k : Int) ((row p.domains k).length : Int) = xv at *
        obtain ⟨x, rfl⟩ := Int.eq_ofNat_of_zero_le hx.1
        have hxl : x < (row p.domains k).length := by omega
        obtain ⟨be, oe, rfl, hbe, u1⟩ := hcol x hxl
        have HXM : Hid (ap p.domains k x ∈ row p.domains k) := by
          show _ ∈ _
          unfold ap
          rw [← gi_eq hxl]; exact List.getElem_mem hxl
        generalize ap p.domains k x = g at *
        have x1' : (0 : Int) ≤ (x : Int) := by omega
        have x2' : (x : Int) < ((row p.domains k).length : Int) := by omega
        have HS : Hid (∀ W, Below V.heap.size V W → W.cell? ⟨w1.heap.size, 0, none⟩ = some (.slice (some ⟨bd, od, none⟩) p.domains.length c0) ∧ W.cell? ⟨bd, od + k, none⟩ = some (.slice (some ⟨be, oe, none⟩) (row p.domains k).length cd) ∧ W.cell? ⟨be, oe + x, none⟩ = some (.int .i64 g)) := fun W hW => ⟨(bat hW _ _ zA).trans s0, (bat hW _ _ hbd).trans u0, (bat hW _ _ hbe).trans u1⟩
        have HBd := Lib.hid HB.out.drew
        have HGLd := Lib.hid (HGL.out.below (lo := 0) In.nil (below_drew1 wr))
        have HGId := Lib.hid (HGI.out.below (lo := 0) In.nil (below_drew1 wr))
        have zd : wr.heap.size ≤ wr.drew.heap.size := Nat.le_refl _
        clear hdc hat hrd hcol hrw u0 u1 hx HB HGL HGI
        go_wp2_with (fail)
        refine wp_region_ord 18 [(0, true), (1, true), (2, true), (3, true), (4, true), (5, true), (6, true), (7, true), (8, true), (9, true), (10, true), (11, true), (12, true), (13, true), (14, false), (15, true), (16, true), (17, false)] (fun W => W.cell? ⟨w1.heap.size, 0, none⟩ = some (.slice (some ⟨bd, od, none⟩) p.domains.length c0) ∧ W.cell? ⟨bd, od + k, none⟩ = some (.slice (some ⟨be, oe, none⟩) (row p.domains k).length cd) ∧ W.cell? ⟨be, oe + x, none⟩ = some (.int .i64 g)) (by kernel_rfl) (by kernel_rfl) (HS.out _ HBd.out) (fun hHeld => ?_)
        generalize wr.drew = Y0 at *
        clear hHeld
        iterate 14
          refine wpOrd_read (v := ?_) rfl (fun _ _ _ h => h) ?_ ?_
          rotate_left
          · (intro W hSW; (try dsimp only at hSW); (go_simp <;> with_reducible rfl))
          (try simp only [Act.put, List.setIfInBounds_toArray, List.set_cons_zero, List.set_cons_succ])
        refine wpOrd_step rfl (fun K hK => ?_)
        go_simp
        refine (CR.out _ HBd.out).mono ?_
        rintro e Y1 ⟨rfl, rfl⟩
        refine hK.out _ _ (HS.out _ HBd.out) ?_
        clear hK K
        (try simp only [Act.put, List.setIfInBounds_toArray, List.set_cons_zero, List.set_cons_succ])
        iterate 2
          refine wpOrd_read (v := ?_) rfl (fun _ _ _ h => h) ?_ ?_
          rotate_left
          · (intro W hSW; (try dsimp only at hSW); (go_simp <;> with_reducible rfl))
          (try simp only [Act.put, List.setIfInBounds_toArray, List.set_cons_zero, List.set_cons_succ])
        refine wpOrd_step rfl (fun K hK => ?_)
        go_simp
        refine hK.out _ _ (HS.out _ (HBd.out.alloc (by omega) _)) ?_
        clear hK K
        (try simp only [Act.put, List.setIfInBounds_toArray, List.set_cons_zero, List.set_cons_succ])
        refine wpOrd_nil ?_
        simp only [List.drop_succ_cons, List.drop_zero]
        go_wp2_with (at_builtin; refine wpList_append1 rfl (.tmp 36) (.tmp 53) _ rfl (V.heap.size) 2 j0 _ 1 8 Try.underlying28 hj0 hy0 hy1 hy2 rfl (by omega) _ _ _ [] rfl HGLd.out [.int .i64 g] [intT g] [] rfl 1 rfl (fun u hu => by simp at hu; subst hu; rfl) (RepV.lits [.int .i64 g]) List.nodup_nil (fun b h => by simp at h) 0 In.nil In.nil (by simp) (by simp) (by unfold maxLen; omega) (by omega) (by omega) ?_; intro v5 w5 hgn; have HGN := Lib.hid hgn; clear hgn)
        have HB5 : Hid (Below V.heap.size V w5) := HBd.out.trans HGN.out.below
        have HGI5 := Lib.hid (HGId.out.frame (fun y hy => HGN.out.keep y (HGId.out.block hy).2 (fun e => HDJ.out y e hy)) (fun b h => by simp at h))
        have DJ5 : Hid (∀ y, v5.ownBlock = some y → u8.ownBlock ≠ some y) := fun y hy hn => by
          rcases HGN.out.row with e | ⟨b, e, hb⟩
          · exact HDJ.out y (e ▸ hy) hn
          · rw [e] at hy
            injection hy with hy
            have := (HGId.out.block hn).2
            omega
        have HGL5 : Hid (Grow w5 V.heap.size 2 1 v5 (l ++ [g]).length ((l ++ [g]).map intT) []) := by
          have := HGN.out.grow
          rw [List.length_append, List.map_append]
          exact this
        have z5 := HGN.out.size
        have HCX := Lib.hid HXM.out
        clear HGN HGId HGLd HBd HDJ CR HS HXM
        go_wp2_with (fail)
        go_at_call 6
        refine (CR2.out _ HB5.out).mono ?_
        rintro e w6 ⟨rfl, rfl⟩
        generalize r8V more (10 + (k : Int)) 2 = y at *
        clear CR2
        by_cases c1 : y = 0
        · have e1 : (y == 0) = true := beq_iff_eq.2 c1
          clear c1
          go_wp2_with (at_builtin; refine wpList_append1 rfl (.tmp 64) (.tmp 66) _ rfl (V.heap.size) 2 j0 _ 1 8 Try.underlying28 hj0 hy0 hy1 hy2 rfl (by omega) _ _ _ [] rfl HGI5.out [.int .i64 (k : Int)] [intT (k : Int)] [] rfl 1 rfl (fun u hu => by simp at hu; subst hu; rfl) (RepV.lits [.int .i64 (k : Int)]) List.nodup_nil (fun b h => by simp at h) 0 In.nil In.nil (by simp) (by simp) (by unfold maxLen; omega) (by omega) (by omega) ?_; intro v7 w7 hgn; have HGN := Lib.hid hgn; clear hgn)
          have HB7 : Hid (Below V.heap.size V w7) := HB5.out.trans HGN.out.below
          have HGL7 := Lib.hid (HGL5.out.frame (fun y hy => HGN.out.keep y (HGL5.out.block hy).2 (fun e => DJ5.out y hy e)) (fun b h => by simp at h))
          have DJ7 : Hid (∀ y, v5.ownBlock = some y → v7.ownBlock ≠ some y) := fun y hy hn => by
            rcases HGN.out.row with e | ⟨b, e, hb⟩
            · exact DJ5.out y hy (e ▸ hn)
            · rw [e] at hn
              injection hn with hn
              have := (HGL5.out.block hy).2
              omega
          have HGI7 : Hid (Grow w7 V.heap.size 2 1 v7 (is ++ [(k : Int)]).length ((is ++ [(k : Int)]).map intT) []) := by
            have := HGN.out.grow
            rw [List.length_append, List.map_append]
            exact this
          clear HGN HGI5 HGL5 DJ5 HB5
          go_wp2_with (fail)
          go_roundw
          case rel => exact ⟨k + 1, l ++ [g], is ++ [(k : Int)], by omega, by go_num, HC.out.with HCX.out, HB7.out, HGL7.out, HGI7.out, DJ7.out⟩
          case measure => simp [intOf]; omega
        · have e1 : (y == 0) = false := beq_eq_false_iff_ne.2 c1
          clear c1
          by_cases c2 : k = 0
          · have e2 : ((k : Int) == 0) = true := by rw [beq_iff_eq]; omega
            clear c2
            go_wp2_with (at_builtin; refine wpList_append1 rfl (.tmp 64) (.tmp 66) _ rfl (V.heap.size) 2 j0 _ 1 8 Try.underlying28 hj0 hy0 hy1 hy2 rfl (by omega) _ _ _ [] rfl HGI5.out [.int .i64 (k : Int)] [intT (k : Int)] [] rfl 1 rfl (fun u hu => by simp at hu; subst hu; rfl) (RepV.lits [.int .i64 (k : Int)]) List.nodup_nil (fun b h => by simp at h) 0 In.nil In.nil (by simp) (by simp) (by unfold maxLen; omega) (by omega) (by omega) ?_; intro v7 w7 hgn; have HGN := Lib.hid hgn; clear hgn)
            have HB7 : Hid (Below V.heap.size V w7) := HB5.out.trans HGN.out.below
            have HGL7 := Lib.hid (HGL5.out.frame (fun y hy => HGN.out.keep y (HGL5.out.block hy).2 (fun e => DJ5.out y hy e)) (fun b h => by simp at h))
            have DJ7 : Hid (∀ y, v5.ownBlock = some y → v7.ownBlock ≠ some y) := fun y hy hn => by
              rcases HGN.out.row with e | ⟨b, e, hb⟩
              · exact DJ5.out y hy (e ▸ hn)
              · rw [e] at hn
                injection hn with hn
                have := (HGL5.out.block hy).2
                omega
            have HGI7 : Hid (Grow w7 V.heap.size 2 1 v7 (is ++ [(k : Int)]).length ((is ++ [(k : Int)]).map intT) []) := by
              have := HGN.out.grow
              rw [List.length_append, List.map_append]
              exact this
            clear HGN HGI5 HGL5 DJ5 HB5
            go_wp2_with (fail)
            go_roundw
            case rel => exact ⟨k + 1, l ++ [g], is ++ [(k : Int)], by omega, by go_num, HC.out.with HCX.out, HB7.out, HGL7.out, HGI7.out, DJ7.out⟩
            case measure => simp [intOf]; omega
          · have e2 : ((k : Int) == 0) = false := by rw [beq_eq_false_iff_ne]; omega
            have K0 := Lib.hid c2
            clear c2
            go_wp2_with (fail)
            go_roundw
            case rel => exact ⟨k + 1, l ++ [g], is, by omega, by go_num, HC.out.without HCX.out (by have := K0.out; omega), HB5.out, HGL5.out, HGI5.out, DJ5.out⟩
            case measure => simp [intOf]; omega
      · obtain rfl : k = p.domains.length := by omega
        go_upto_region 13 with (fail)
        as_aux_lemma =>
         obtain ⟨al, cl, fl, el, ol, il⟩ := HGL.out.toOwn (lo := V.heap.size) (by decide) In.nil (Nat.le_refl _)
         obtain ⟨ai, ci, fi, ei, oi, ii⟩ := HGI.out.toOwn (lo := V.heap.size) (by decide) In.nil (Nat.le_refl _)
         subst el ei
         have RL : Rd wr.heap.size wr (intsT l) (.slice al l.length cl) := ol.rd il
         have RI : Rd wr.heap.size wr (intsT is) (.slice ai is.length ci) := oi.rd ii
         have hA := HC.out.asg
         have hI := HC.out.items HV.out
         have HDX : Hid (∀ W, Below wr.heap.size wr W → PRd W.heap.size W p (.slice a0 p.domains.length c0) (.slice a1 p.apart.length c1) ∧ Rd W.heap.size W (intsT l) (.slice al l.length cl) ∧ Rd W.heap.size W (intsT is) (.slice ai is.length ci) ∧ Rd W.heap.size W (bsT more) (.slice x1 more.length y1) ∧ W.cell? ⟨w1.heap.size, 0, none⟩ = some (.slice a0 p.domains.length c0) ∧ W.cell? ⟨w1.heap.size, 1, none⟩ = some (.slice a1 p.apart.length c1)) := fun W hW => by
           have hVW := HB.out.trans (hW.mono (by omega))
           exact ⟨(HR0.out.below hVW).mono hVW.size, (RL.below hW).mono hW.size, (RI.below hW).mono hW.size, (HMA.out.below hVW).mono hVW.size, (bat hVW _ _ zA).trans s0, (bat hVW _ _ zA).trans s1⟩
         have BX : Hid (Below w.heap.size w wr) := BA.out.trans (HB.out.mono (by omega))
         clear ol il oi ii RL RI HGL HGI HDJ HR0 HMA KB s0 s1 HB BA HC
         have CV : Hid (∀ W, Below wr.heap.size wr W → Calls Try.prog 7 #[.agg #[.slice a0 p.domains.length c0, .slice a1 p.apart.length c1], .slice al l.length cl] W fun e w' => ∃ (a' : Option Addr) (n c : Nat), e = .returned (.tuple #[.slice a' n c, .int .i64 0]) ∧ (n = 0 ↔ FineP p.apart l) ∧ Below W.heap.size W w') := fun W hW => by
           obtain ⟨q0, q1, -⟩ := HDX.out W hW
           exact iViolations_any p l _ _ _ W q0.d q0.a q1 HV.out hA
         have CF : Hid (∀ W, Below wr.heap.size wr W → Calls Try.prog 8 #[.agg #[.slice a0 p.domains.length c0, .slice a1 p.apart.length c1], .slice al l.length cl] W fun e w' => e = .returned (.bool (fineB p.apart l)) ∧ Below W.heap.size W w') := fun W hW => by
           obtain ⟨q0, q1, -⟩ := HDX.out W hW
           exact iValidAsg_any p l _ _ _ W q0.d q0.a q1 HV.out hA
         have CP : Hid (∀ W, Below wr.heap.size wr W → Calls Try.prog 9 #[.agg #[.slice a0 p.domains.length c0, .slice a1 p.apart.length c1], .slice ai is.length ci] W (NewR (partR p is) 0 W)) := fun W hW => by
           obtain ⟨q0, -, q2, -⟩ := HDX.out W hW
           exact (partProblem_any p is _ _ _ W q0.d q0.a q2 HV.out hI).mono fun e w' h => newR_of h
         have HF : Hid (fineB p.apart l = true ↔ FineP p.apart l) := fineB_iff
         generalize fineB p.apart l = F at *
         have HA := Lib.hid hA
         have HI := Lib.hid hI
         clear hA hI
         have BZ : Hid (Below wr.heap.size wr wr) := Below.refl _ _
         generalize wr = X at *
         obtain ⟨-, -, -, -, t0, t1⟩ := HDX.out _ BZ.out
         go_wp2_with (fail)
         go_at_call 7
         refine (CV.out _ BZ.out).mono ?_
         rintro e w2 ⟨av, nv, cv, rfl, hiff, hb2⟩
         have HN : Hid (((nv : Int) == 0) = F) := by
           show _ = _
           rw [Bool.eq_iff_iff, HF.out, ← hiff]
           simp
         have B2 := Lib.hid (BZ.out.trans (hb2.mono (by omega)))
         clear hb2 hiff t0 t1 CV BZ
         obtain ⟨-, -, -, -, t0, t1⟩ := HDX.out _ B2.out
         go_wp2_with (fail)
         go_at_call 8
         refine (CF.out _ B2.out).mono ?_
         rintro e w3 ⟨rfl, hb3⟩
         have B3 := Lib.hid (B2.out.trans (hb3.mono B2.out.size))
         clear hb3 t0 t1 CF B2
         go_upto_region 15 with (fail)
         go_cut [85] (fun s85 wx => s85 = .bool false ∧ w3 = wx)
         case first =>
           have hN := HN.out
           clear HF HN
           cases F with
           | true =>
             go_wp2_with (fail)
             go_meet
             exact ⟨rfl, rfl⟩
           | false =>
             go_wp2_with (fail)
             go_meet
             exact ⟨rfl, rfl⟩
         obtain ⟨rfl, rfl⟩ := hcut
         as_aux_lemma =>
          obtain ⟨-, -, -, -, t0, t1⟩ := HDX.out _ B3.out
          go_wp2_with (fail)
          go_at_call 9
          refine (CP.out _ B3.out).mono ?_
          rintro e w4 ⟨a2, c2, a3, c3, rfl, hb4, rp⟩
          have B4 := Lib.hid (B3.out.trans (hb4.mono B3.out.size))
          have z4 := B4.out.size
          have bP := below_alloc w4 (.cells #[.slice a2 (partR p is).domains.length c2, .slice a3 (partR p is).apart.length c3] 26)
          have KP := Lib.hid (bkN w4 #[.slice a2 (partR p is).domains.length c2, .slice a3 (partR p is).apart.length c3] 26)
          have RP := Lib.hid ((rp.below bP).mono bP.size)
          have B5 : Hid (Below X.heap.size X (w4.alloc (.cells #[.slice a2 (partR p is).domains.length c2, .slice a3 (partR p is).apart.length c3] 26))) := B4.out.trans (bP.mono z4)
          have zP : w4.heap.size < (w4.alloc (.cells #[.slice a2 (partR p is).domains.length c2, .slice a3 (partR p is).apart.length c3] 26)).heap.size := by simp
          have HVP : Hid (ValidP (partR p is)) := part_valid HV.out HI.out
          have HAP : Hid (AsgOk (partR p is) (shortL l is)) := part_asg HV.out HI.out HA.out
          have HFP : Hid (F = true → fineB (partR p is).apart (shortL l is) = true) := fun h => fineB_iff.2 (part_fine HV.out HI.out HA.out (HF.out.1 h))
          generalize partR p is = q at *
          clear hb4 rp bP t0 t1 CP B3 HN
          go_upto_region 18 with (fail)
          generalize w4.alloc (.cells #[.slice a2 q.domains.length c2, .slice a3 q.apart.length c3] 26) = Y at *
          as_aux_lemma =>
           have CW : Hid (∀ W, Below Y.heap.size Y W → Calls Try.prog 10 #[.agg #[.slice a2 q.domains.length c2, .slice a3 q.apart.length c3]] W fun e w' => e = .returned (.bool true) ∧ Below W.heap.size W w') := fun W hW => sValidProblem_any q _ _ W ((RP.out.d.below hW).mono hW.size) ((RP.out.a.below hW).mono hW.size) HVP.out
           obtain ⟨t0, t1⟩ : Y.cell? ⟨w4.heap.size, 0, none⟩ = some (.slice a2 q.domains.length c2) ∧ Y.cell? ⟨w4.heap.size, 1, none⟩ = some (.slice a3 q.apart.length c3) := ⟨bkC KP.out 0 rfl, bkC KP.out 1 rfl⟩
           have BY : Hid (Below Y.heap.size Y Y) := Below.refl _ _
           go_wp2_with (fail)
           go_at_call 10
           refine (CW.out _ BY.out).mono ?_
           rintro e w5 ⟨rfl, hb5⟩
           have B6 := Lib.hid hb5
           have z6 := hb5.size
           have GS : Hid (Grow (w5.alloc (.cells #[] 2)) w5.heap.size 2 1 (.slice (some ⟨w5.heap.size, 0, none⟩) 0 0) 0 [] []) := grow_roomI w5 2 #[] 0 rfl (by unfold maxLen; omega)
           have BS : Hid (Below w5.heap.size w5 (w5.alloc (.cells #[] 2))) := below_alloc w5 _
           clear hb5 t0 t1 CW BY
           go_wp2_with (fail)
           as_aux_lemma =>
            obtain ⟨-, q1, q2, -⟩ := HDX.out _ (B5.out.trans (B6.out.mono B5.out.size))
            obtain ⟨_, _, hq1, _, _, hc1⟩ := q1.ints
            injection hq1 with u1 _ u2
            subst u1 u2
            obtain ⟨_, _, hq2, _, _, hc2⟩ := q2.ints
            injection hq2 with u1 _ u2
            subst u1 u2
            have hll := HA.out.len
            have hil := HI.out.len
            have hin := HI.out.ne
            obtain ⟨bl, bo, rfl, hbl, hatl⟩ := hc1 (by omega)
            obtain ⟨bi, io, rfl, hbi, hati⟩ := hc2 (by omega)
            have HATL := Lib.hid hatl
            have HATI := Lib.hid hati
            have hl6 : l.length ≤ 6 := by omega
            have hi6 : is.length ≤ 6 := by omega
            have HLL := Lib.hid hll
            clear q1 q2 hc1 hc2 hatl hati hll hil
            go_loopw [15, 16] (fun sv iv wr => ∃ (k : Nat) (sl : List Int), k ≤ is.length ∧ iv = .int .i64 (k : Int) ∧ sl = (shortL l is).take k ∧ Below w5.heap.size w5 wr ∧ Grow wr w5.heap.size 2 1 sv sl.length (sl.map intT) []) (fun _ iv wr => is.length - (intOf iv).toNat)
            case atStart => exact ⟨0, [], Nat.zero_le _, rfl, rfl, BS.out, GS.out⟩
            case round =>
              clear GS BS
              obtain ⟨k, sl, hk, rfl, hsl, hb, hg⟩ := hrel
              have hsll : sl.length = k := by rw [hsl, List.length_take]; simp [shortL]; omega
              have HSL := Lib.hid hsl
              have hs6 : sl.length ≤ 6 := by omega
              have HB := Lib.hid hb
              have HG := Lib.hid hg
              have zr := hb.size
              clear hsl hb hg hsll
              by_cases hlt : k < is.length
              · have s0 := HATI.out k hlt
                rw [gi_eq hlt] at s0
                have hrg := HI.out.rng k hlt
                have HTK := Lib.hid (shortL_take l is hlt)
                obtain ⟨x, hx⟩ := Int.eq_ofNat_of_zero_le hrg.1
                rw [hx] at s0
                rw [hx, Int.toNat_natCast] at HTK
                have hxl : x < l.length := by have := HLL.out; omega
                have s1 := HATL.out x hxl
                rw [gi_eq hxl] at s1
                generalize gi l x = g at *
                have u0 := (bat HB.out _ _ hbi).trans s0
                have u1 := (bat HB.out _ _ hbl).trans s1
                have k1 : (0 : Int) ≤ (k : Int) := by omega
                have k2 : (k : Int) < (is.length : Int) := by omega
                have x1' : (0 : Int) ≤ (x : Int) := by omega
                have x2' : (x : Int) < (l.length : Int) := by omega
                clear s0 s1 hrg hx
                go_wp2_with (at_builtin; refine wpList_append1 rfl (.tmp 106) (.tmp 114) _ rfl (w5.heap.size) 2 j0 _ 1 8 Try.underlying28 hj0 hy0 hy1 hy2 rfl (by omega) _ _ _ [] rfl HG.out [.int .i64 g] [intT g] [] rfl 1 rfl (fun u hu => by simp at hu; subst hu; rfl) (RepV.lits [.int .i64 g]) List.nodup_nil (fun b h => by simp at h) 0 In.nil In.nil (by simp) (by simp) (by unfold maxLen; omega) (by omega) (by omega) ?_; intro v7 w7 hgn; have HGN := Lib.hid hgn; clear hgn)
                go_wp2_with (fail)
                go_roundw
                case rel =>
                  refine ⟨k + 1, sl ++ [g], by omega, by go_num, by rw [HTK.out, HSL.out], HB.out.trans HGN.out.below, ?_⟩
                  rw [List.length_append, List.map_append]
                  exact HGN.out.grow
                case measure => simp [intOf]; omega
              · obtain rfl : k = is.length := by omega
                obtain ⟨sa, cs, fs, es, os, js⟩ := HG.out.toOwn (lo := w5.heap.size) (by decide) In.nil (Nat.le_refl _)
                subst es
                have hsl : sl = shortL l is := by rw [HSL.out, List.take_of_length_le (by simp [shortL])]
                have RS : Hid (Rd wr.heap.size wr (intsT sl) (.slice sa sl.length cs)) := os.rd js
                rw [← hsl] at HAP HFP
                have BM : Hid (Below Y.heap.size Y wr) := B6.out.trans (HB.out.mono B6.out.size)
                have BXM : Hid (Below X.heap.size X wr) := B5.out.trans (BM.out.mono B5.out.size)
                have HPM : Hid (∀ W, Below wr.heap.size wr W → W.cell? ⟨w4.heap.size, 0, none⟩ = some (.slice a2 q.domains.length c2) ∧ W.cell? ⟨w4.heap.size, 1, none⟩ = some (.slice a3 q.apart.length c3)) := fun W hW => by
                  have k := bkB KP.out (BM.out.trans (hW.mono BM.out.size)) zP
                  exact ⟨bkC k 0 rfl, bkC k 1 rfl⟩
                have CQ : Hid (∀ W, Below wr.heap.size wr W → Calls Try.prog 8 #[.agg #[.slice a2 q.domains.length c2, .slice a3 q.apart.length c3], .slice sa sl.length cs] W fun e w' => e = .returned (.bool (fineB q.apart sl)) ∧ Below W.heap.size W w') := fun W hW => by
                  have hY := BM.out.trans (hW.mono BM.out.size)
                  have r := (RP.out.below hY).mono hY.size
                  exact iValidAsg_any q sl _ _ _ W r.d r.a ((RS.out.below hW).mono hW.size) HVP.out HAP.out
                have HDM : Hid (∀ W, Below wr.heap.size wr W → PRd W.heap.size W p (.slice a0 p.domains.length c0) (.slice a1 p.apart.length c1) ∧ Rd W.heap.size W (intsT l) (.slice (some ⟨bl, bo, none⟩) l.length cl) ∧ Rd W.heap.size W (bsT more) (.slice x1 more.length y1) ∧ W.cell? ⟨w1.heap.size, 0, none⟩ = some (.slice a0 p.domains.length c0) ∧ W.cell? ⟨w1.heap.size, 1, none⟩ = some (.slice a1 p.apart.length c1)) := fun W hW => by
                  obtain ⟨q0, q1, q2, q3, q4, q5⟩ := HDX.out W (BXM.out.trans (hW.mono BXM.out.size))
                  exact ⟨q0, q1, q3, q4, q5⟩
                have BWM : Hid (Below w.heap.size w wr) := BX.out.trans (BXM.out.mono BX.out.size)
                have hl1 : 1 ≤ l.length := by have := HLL.out; omega
                clear HG os js HSL hsl HB HDX KP RP RS HAP HVP BM BXM B5 B6 B4 HATI HATL hbl hbi BX zP
                have BN : Hid (Below wr.heap.size wr wr) := Below.refl _ _
                generalize wr = M at *
                as_aux_lemma =>
                 go_upto_region 25 with (fail)
                 go_cut [122] (fun s122 wx => s122 = .bool false ∧ Below M.heap.size M wx)
                 case first =>
                   cases F with
                   | true =>
                     rw [HFP.out rfl] at CQ
                     clear HF HFP
                     obtain ⟨t0, t1⟩ := HPM.out _ BN.out
                     go_wp2_with (fail)
                     go_at_call 8
                     refine (CQ.out _ BN.out).mono ?_
                     rintro e w6 ⟨rfl, hb6⟩
                     have B6 := Lib.hid hb6
                     clear hb6
                     go_wp2_with (fail)
                     go_meet
                     exact ⟨rfl, B6.out⟩
                   | false =>
                     go_wp2_with (fail)
                     go_meet
                     exact ⟨rfl, BN.out⟩
                 obtain ⟨rfl, hb_⟩ := hcut
                 have BM := Lib.hid hb_
                 clear hb_ HFP CQ HPM BN
                 generalize wc = M1 at *
                 as_aux_lemma =>
                  go_upto_if 124 with (fail)
                  go_cut [12] (fun s12 wx => s12 = .bool F ∧ Below M.heap.size M wx)
                  case first =>
                    by_cases hn : 1 < p.domains.length
                    · have hni : (1 : Int) < (p.domains.length : Int) := by omega
                      have hx := r8V_bd more 20 5 (by omega)
                      obtain ⟨qt, hqt, hqd, hqv, hqf⟩ := tight_fact HV.out hn (x := r8V more 20 5) (by omega)
                      have hsz := HV.out.siz
                      have CR : Hid (∀ W, Below M.heap.size M W → Calls Try.prog 6 #[.slice x1 more.length y1, .int .i64 20, .int .i64 5] W fun e w' => e = .returned (.int .i64 (r8V more 20 5)) ∧ Below W.heap.size W w') := fun W hW => same_below (r8At_any more 20 5 _ W (HDM.out W hW).2.2.1 (by omega) ⟨by omega, by omega⟩)
                      have CT : Hid (∀ W, Below M.heap.size M W → Calls Try.prog 11 #[.agg #[.slice a0 p.domains.length c0, .slice a1 p.apart.length c1], .int .i64 0, .int .i64 (IntKind.i64.wrap ((p.domains.length : Int) - 1)), .int .i64 (r8V more 20 5)] W (NewO qt 0 W)) := fun W hW => by
                        rw [show IntKind.i64.wrap ((p.domains.length : Int) - 1) = (p.domains.length : Int) - 1 from IntWalk.i64_in _ (by omega)]
                        have q0 := (HDM.out W hW).1
                        have := iTighten_any p _ _ 0 ((p.domains.length : Int) - 1) (r8V more 20 5) W q0.d q0.a hsz.1 hsz.2
                        rw [hqt] at this
                        exact this.mono fun e w' h => newO_of h
                      have HQV := Lib.hid hqv
                      have HQA : Hid (AsgOk qt l) := ⟨by rw [hqd]; exact HA.out.len, fun i hi => by rw [hqd]; exact HA.out.mem i hi⟩
                      have HQF : Hid (fineB qt.apart l = true → F = true) := fun h => HF.out.2 (hqf l HA.out.len (fineB_iff.1 h))
                      generalize r8V more 20 5 = xt at *
                      clear hqt hqd hqv hqf hsz hx hn
                      have BM2 : Hid (Below M1.heap.size M1 M1) := Below.refl _ _
                      have HDT : Hid (∀ W, Below M1.heap.size M1 W → W.cell? ⟨w1.heap.size, 0, none⟩ = some (.slice a0 p.domains.length c0) ∧ W.cell? ⟨w1.heap.size, 1, none⟩ = some (.slice a1 p.apart.length c1)) := fun W hW => (HDM.out W (BM.out.trans (hW.mono BM.out.size))).2.2.2
                      have zM := BM.out.size
                      go_upto_region 28 with (fail)
                      go_cut [17, 18] (fun s17 s18 wx => ∃ (g : Nat) (a4 a5 : Option Addr) (c4 c5 : Nat), s17 = .pointer (some ⟨g, 0, none⟩) ∧ s18 = .int .i64 0 ∧ wx.heap[g]? = some (.cells #[.slice a4 qt.domains.length c4, .slice a5 qt.apart.length c5] 26 (0, 0)) ∧ PRd wx.heap.size wx qt (.slice a4 qt.domains.length c4) (.slice a5 qt.apart.length c5) ∧ Below M1.heap.size M1 wx ∧ g < wx.heap.size)
                      case first =>
                        refine wp_region_tree 11 (.read 0 (.read 1 (.read 2 (.read 3 (.two 4 9 (.two 5 9 (.read 6 (.read 7 (.read 8 (.one 9 (.one 10 .nil))))) (.one 5 (.read 6 (.read 7 (.read 8 (.one 10 .nil)))))) (.one 4 (.one 5 (.read 6 (.read 7 (.read 8 (.one 10 .nil))))))))))) (fun W => Below M1.heap.size M1 W) (by kernel_rfl) (by kernel_rfl) (BM2.out.drew) ?_
                        have YB := Lib.hid (BM2.out.drew)
                        have Yz : M1.heap.size ≤ M1.drew.heap.size := Nat.le_refl _
                        generalize M1.drew = Y at *
                        iterate 4
                          refine wpTree_read (v := ?_) rfl (fun _ _ _ h => h) ?_ ?_
                          rotate_left
                          · (intro W hSW; (try dsimp only at hSW); obtain ⟨t0, t1⟩ := HDT.out W hSW; (go_simp <;> with_reducible rfl))
                          (try simp only [Act.put, List.setIfInBounds_toArray, List.set_cons_zero, List.set_cons_succ])
                        refine wpTree_two ?_ ?_
                        refine stepT_mk rfl (fun K hK => ?_)
                        go_simp
                        refine ((fun W (hW : Below M1.heap.size M1 W) => CR.out W (BM.out.trans (hW.mono BM.out.size))) _ YB.out).mono ?_
                        rintro e Y1 ⟨rfl, hb1⟩
                        have YB1 := btr YB hb1
                        refine hK.out _ _ YB1.out ?_
                        clear hK K
                        have bs1 := hb1.size
                        clear hb1
                        refine wpTree_two ?_ ?_
                        refine stepT_mk rfl (fun K hK => ?_)
                        go_simp
                        refine ((fun W (hW : Below M1.heap.size M1 W) => CT.out W (BM.out.trans (hW.mono BM.out.size))) _ YB1.out).mono ?_
                        rintro e Y2 ⟨a4, c4, a5, c5, p4, rfl, hb2, ho2, hi2⟩
                        have YB2 := btr YB1 hb2
                        refine hK.out _ _ YB2.out ?_
                        clear hK K
                        have bs2 := hb2.size
                        have Yoq2 := Lib.hid ho2
                        have Yiq2 := Lib.hid hi2
                        clear ho2 hi2
                        clear hb2
                        iterate 3
                          refine wpTree_read (v := ?_) rfl (fun _ _ _ h => h) ?_ ?_
                          rotate_left
                          · (intro W hSW; (try dsimp only at hSW); obtain ⟨t0, t1⟩ := HDT.out W hSW; (go_simp <;> with_reducible rfl))
                          (try simp only [Act.put, List.setIfInBounds_toArray, List.set_cons_zero, List.set_cons_succ])
                        refine wpTree_one ?_
                        refine stepT_mk rfl (fun K hK => ?_)
                        go_simp
                        obtain ⟨Y3, hW3, hb3, zl3, hk3⟩ := boxes1 Y2 #[.slice none 0 0, .slice none 0 0] 26
                        rw [hW3]
                        have Ykt3 := Lib.hid hk3
                        have YB3 := btr YB2 hb3
                        have Yoq3 := Lib.hid (Yoq2.out.below Yiq2.out (by omega) hb3)
                        refine hK.out _ _ YB3.out ?_
                        have bs3 := hb3.size
                        clear hK K hW3 hk3 hb3
                        refine wpTree_one ?_
                        refine stepT_mk rfl (fun K hK => ?_)
                        obtain ⟨g0, g1, fz⟩ := bz2 Ykt3.out
                        go_simp
                        obtain ⟨Y4, hW4, Ykt4, bs4, ho4, hl4⟩ := stAll Ykt3 [.slice a4 qt.domains.length c4, .slice a5 qt.apart.length c5] rfl
                        simp only [setsC] at hW4
                        rw [hW4]
                        have YB4 := Lib.hid (hl4.out M1 (by have := YB3.out.size; omega) YB3.out)
                        have Yoq4 := Lib.hid (Yoq3.out.frame (fun x hx => ho4.out x (fun e => by subst e; have := Yiq2.out _ hx; omega)))
                        refine hK.out _ _ YB4.out ?_
                        clear hK K fz hW4 ho4 hl4 g0 g1
                        refine wpTree_nil ?_
                        try simp only [List.drop_succ_cons, List.drop_zero]
                        go_wp2_with fail
                        go_meet
                        exact ⟨_, a4, a5, c4, c5, rfl, rfl, Ykt4.out, prd_of Yoq4.out Yiq2.out (by omega), YB4.out, by omega⟩
                        refine stepT_mk rfl (fun K hK => ?_)
                        go_simp
                        obtain ⟨Y5, hW5, hb5, zl5, hk5⟩ := boxes1 Y1 #[.slice none 0 0, .slice none 0 0] 26
                        rw [hW5]
                        have Ykt5 := Lib.hid hk5
                        have YB5 := btr YB1 hb5
                        refine hK.out _ _ YB5.out ?_
                        have bs5 := hb5.size
                        clear hK K hW5 hk5 hb5
                        refine wpTree_one ?_
                        refine stepT_mk rfl (fun K hK => ?_)
                        go_simp
                        refine ((fun W (hW : Below M1.heap.size M1 W) => CT.out W (BM.out.trans (hW.mono BM.out.size))) _ YB5.out).mono ?_
                        rintro e Y6 ⟨a4, c4, a5, c5, p4, rfl, hb6, ho6, hi6⟩
                        have YB6 := btr YB5 hb6
                        refine hK.out _ _ YB6.out ?_
                        clear hK K
                        have bs6 := hb6.size
                        have Yoq6 := Lib.hid ho6
                        have Yiq6 := Lib.hid hi6
                        clear ho6 hi6
                        have Ykt6 := bkH Ykt5 hb6
                        clear hb6
                        iterate 3
                          refine wpTree_read (v := ?_) rfl (fun _ _ _ h => h) ?_ ?_
                          rotate_left
                          · (intro W hSW; (try dsimp only at hSW); obtain ⟨t0, t1⟩ := HDT.out W hSW; (go_simp <;> with_reducible rfl))
                          (try simp only [Act.put, List.setIfInBounds_toArray, List.set_cons_zero, List.set_cons_succ])
                        refine wpTree_one ?_
                        refine stepT_mk rfl (fun K hK => ?_)
                        obtain ⟨g0, g1, fz⟩ := bz2 Ykt6.out
                        go_simp
                        obtain ⟨Y7, hW7, Ykt7, bs7, ho7, hl7⟩ := stAll Ykt6 [.slice a4 qt.domains.length c4, .slice a5 qt.apart.length c5] rfl
                        simp only [setsC] at hW7
                        rw [hW7]
                        have YB7 := Lib.hid (hl7.out M1 (by have := YB6.out.size; omega) YB6.out)
                        have Yoq7 := Lib.hid (Yoq6.out.frame (fun x hx => ho7.out x (fun e => by subst e; have := Yiq6.out _ hx; omega)))
                        refine hK.out _ _ YB7.out ?_
                        clear hK K fz hW7 ho7 hl7 g0 g1
                        refine wpTree_nil ?_
                        try simp only [List.drop_succ_cons, List.drop_zero]
                        go_wp2_with fail
                        go_meet
                        exact ⟨_, a4, a5, c4, c5, rfl, rfl, Ykt7.out, prd_of Yoq7.out Yiq6.out (by omega), YB7.out, by omega⟩
                        refine stepT_mk rfl (fun K hK => ?_)
                        go_simp
                        obtain ⟨Y8, hW8, hb8, zl8, hk8⟩ := boxes1 Y #[.slice none 0 0, .slice none 0 0] 26
                        rw [hW8]
                        have Ykt8 := Lib.hid hk8
                        have YB8 := btr YB hb8
                        refine hK.out _ _ YB8.out ?_
                        have bs8 := hb8.size
                        clear hK K hW8 hk8 hb8
                        refine wpTree_one ?_
                        refine stepT_mk rfl (fun K hK => ?_)
                        go_simp
                        refine ((fun W (hW : Below M1.heap.size M1 W) => CR.out W (BM.out.trans (hW.mono BM.out.size))) _ YB8.out).mono ?_
                        rintro e Y9 ⟨rfl, hb9⟩
                        have YB9 := btr YB8 hb9
                        refine hK.out _ _ YB9.out ?_
                        clear hK K
                        have bs9 := hb9.size
                        have Ykt9 := bkH Ykt8 hb9
                        clear hb9
                        refine wpTree_one ?_
                        refine stepT_mk rfl (fun K hK => ?_)
                        go_simp
                        refine ((fun W (hW : Below M1.heap.size M1 W) => CT.out W (BM.out.trans (hW.mono BM.out.size))) _ YB9.out).mono ?_
                        rintro e Y10 ⟨a4, c4, a5, c5, p4, rfl, hb10, ho10, hi10⟩
                        have YB10 := btr YB9 hb10
                        refine hK.out _ _ YB10.out ?_
                        clear hK K
                        have bs10 := hb10.size
                        have Yoq10 := Lib.hid ho10
                        have Yiq10 := Lib.hid hi10
                        clear ho10 hi10
                        have Ykt10 := bkH Ykt9 hb10
                        clear hb10
                        iterate 3
                          refine wpTree_read (v := ?_) rfl (fun _ _ _ h => h) ?_ ?_
                          rotate_left
                          · (intro W hSW; (try dsimp only at hSW); obtain ⟨t0, t1⟩ := HDT.out W hSW; (go_simp <;> with_reducible rfl))
                          (try simp only [Act.put, List.setIfInBounds_toArray, List.set_cons_zero, List.set_cons_succ])
                        refine wpTree_one ?_
                        refine stepT_mk rfl (fun K hK => ?_)
                        obtain ⟨g0, g1, fz⟩ := bz2 Ykt10.out
                        go_simp
                        obtain ⟨Y11, hW11, Ykt11, bs11, ho11, hl11⟩ := stAll Ykt10 [.slice a4 qt.domains.length c4, .slice a5 qt.apart.length c5] rfl
                        simp only [setsC] at hW11
                        rw [hW11]
                        have YB11 := Lib.hid (hl11.out M1 (by have := YB10.out.size; omega) YB10.out)
                        have Yoq11 := Lib.hid (Yoq10.out.frame (fun x hx => ho11.out x (fun e => by subst e; have := Yiq10.out _ hx; omega)))
                        refine hK.out _ _ YB11.out ?_
                        clear hK K fz hW11 ho11 hl11 g0 g1
                        refine wpTree_nil ?_
                        try simp only [List.drop_succ_cons, List.drop_zero]
                        go_wp2_with fail
                        go_meet
                        exact ⟨_, a4, a5, c4, c5, rfl, rfl, Ykt11.out, prd_of Yoq11.out Yiq10.out (by omega), YB11.out, by omega⟩
                      obtain ⟨g, a4, a5, c4, c5, rfl, rfl, kg, rq, hb_, hg⟩ := hcut
                      generalize wc = M2 at *
                      have KG := Lib.hid kg
                      have RQ := Lib.hid rq
                      have BM3 : Hid (Below M.heap.size M M2) := BM.out.trans (hb_.mono BM.out.size)
                      have zz2 := hb_.size
                      clear kg rq hb_ CR CT BM2 HDT
                      as_aux_lemma =>
                       have CW : Hid (∀ W, Below M2.heap.size M2 W → Calls Try.prog 10 #[.agg #[.slice a4 qt.domains.length c4, .slice a5 qt.apart.length c5]] W fun e w' => e = .returned (.bool true) ∧ Below W.heap.size W w') := fun W hW => sValidProblem_any qt _ _ W ((RQ.out.d.below hW).mono hW.size) ((RQ.out.a.below hW).mono hW.size) HQV.out
                       have CG : Hid (∀ W, Below M2.heap.size M2 W → Calls Try.prog 8 #[.agg #[.slice a4 qt.domains.length c4, .slice a5 qt.apart.length c5], .slice (some ⟨bl, bo, none⟩) l.length cl] W fun e w' => e = .returned (.bool (fineB qt.apart l)) ∧ Below W.heap.size W w') := fun W hW => iValidAsg_any qt l _ _ _ W ((RQ.out.d.below hW).mono hW.size) ((RQ.out.a.below hW).mono hW.size) (HDM.out W (BM3.out.trans (hW.mono BM3.out.size))).2.1 HQV.out HQA.out
                       have HT : Hid (∀ W, Below M2.heap.size M2 W → W.cell? ⟨g, 0, none⟩ = some (.slice a4 qt.domains.length c4) ∧ W.cell? ⟨g, 1, none⟩ = some (.slice a5 qt.apart.length c5)) := fun W hW => ⟨bkC (bkB KG.out hW hg) 0 rfl, bkC (bkB KG.out hW hg) 1 rfl⟩
                       have B0 : Hid (Below M2.heap.size M2 M2) := Below.refl _ _
                       generalize fineB qt.apart l = G at *
                       obtain ⟨t0, t1⟩ := HT.out _ B0.out
                       go_wp2_with (fail)
                       go_at_call 10
                       refine (CW.out _ B0.out).mono ?_
                       rintro e N1 ⟨rfl, hb1⟩
                       have B1 := Lib.hid hb1
                       clear hb1 t0 t1
                       obtain ⟨t0, t1⟩ := HT.out _ B1.out
                       go_wp2_with (fail)
                       go_at_call 8
                       refine (CG.out _ B1.out).mono ?_
                       rintro e N2 ⟨rfl, hb2⟩
                       have B2 := Lib.hid (BM3.out.trans ((B1.out.trans (hb2.mono B1.out.size)).mono BM3.out.size))
                       clear hb2 t0 t1 HF
                       cases G with
                       | true =>
                         have hF := HQF.out rfl
                         clear HQF
                         go_wp2_with (fail)
                         go_meet
                         exact ⟨by rw [hF], B2.out⟩
                       | false =>
                         clear HQF
                         go_wp2_with (fail)
                         go_meet
                         exact ⟨rfl, B2.out⟩
                    · have hni : ¬ (1 : Int) < (p.domains.length : Int) := by omega
                      go_wp2_with (fail)
                      go_meet
                      exact ⟨rfl, BM.out⟩
                  obtain ⟨rfl, hb_⟩ := hcut
                  clear BM
                  have BM := Lib.hid hb_
                  clear hb_
                  generalize wc = M5 at *
                  as_aux_lemma =>
                   go_upto_region 31 with (fail)
                   obtain ⟨qr, hqr, hqa, hqdl, hqrow, hqv, hqas⟩ := restr_fact HV.out HA.out
                   have hsz := HV.out.siz
                   have CS : Hid (∀ (cb : Nat) (W : World), Below M.heap.size M W → W.heap[cb]? = some (.cells #[.int .i64 (gi l 0)] 2 (0, 0)) → Calls Try.prog 12 #[.agg #[.slice a0 p.domains.length c0, .slice a1 p.apart.length c1], .int .i64 0, .slice (some ⟨cb, 0, none⟩) 1 1] W (NewO qr 0 W)) := fun cb W hW hk => by
                     have q0 := (HDM.out W hW).1
                     have hcb : cb < W.heap.size := by
                       rcases Nat.lt_or_ge cb W.heap.size with h | h
                       · exact h
                       · rw [Array.getElem?_eq_none h] at hk; cases hk
                     have hr : Rd W.heap.size W (intsT [gi l 0]) (.slice (some ⟨cb, 0, none⟩) 1 1) := ⟨[cb], Rep_sl.2 ⟨_, 1, 1, rfl, rfl, Nat.le_refl _, by unfold maxLen; omega, Or.inr ⟨cb, 0, [], by simp, rfl, rfl, Reps_cons.2 ⟨.int .i64 (gi l 0), [], [], bkC hk 0 rfl, Rep_lit.2 ⟨rfl, rfl⟩, Reps_nil.2 rfl, rfl⟩⟩⟩, fun b hb => by simp at hb; omega⟩
                     have := iRestrict_any p [gi l 0] _ _ _ 0 W q0.d q0.a hr hsz.1 hsz.2 (by simp)
                     rw [hqr] at this
                     exact this.mono fun e w' h => newO_of h
                   have HQV := Lib.hid hqv
                   have HQA := Lib.hid hqas
                   have HQF : Hid (fineB qr.apart l = F) := by
                     show _ = _
                     rw [hqa, Bool.eq_iff_iff, fineB_iff, HF.out]
                   have HQD := Lib.hid hqdl
                   have HQR := Lib.hid hqrow
                   have BM2 : Hid (Below M5.heap.size M5 M5) := Below.refl _ _
                   have hn1' := HV.out.n1
                   have HDT : Hid (∀ W, Below M5.heap.size M5 W → W.cell? ⟨w1.heap.size, 0, none⟩ = some (.slice a0 p.domains.length c0) ∧ W.cell? ⟨w1.heap.size, 1, none⟩ = some (.slice a1 p.apart.length c1) ∧ W.cell? ⟨bl, bo, none⟩ = some (.int .i64 (gi l 0))) := fun W hW => by
                     obtain ⟨_, q1, _, q3, q4⟩ := HDM.out W (BM.out.trans (hW.mono BM.out.size))
                     obtain ⟨_, _, hq, _, _, hc⟩ := q1.ints
                     injection hq with u1 _ u2
                     subst u2
                     obtain ⟨b', o', e', _, hat⟩ := hc (by omega)
                     rw [e'] at u1
                     injection u1 with u1
                     injection u1 with u1 u3
                     subst u1 u3
                     have := hat 0 (by omega)
                     rw [gi_eq (by omega), Nat.add_zero] at this
                     exact ⟨q3, q4, this⟩
                   have zM := BM.out.size
                   have hlli : (0 : Int) < (l.length : Int) := by omega
                   have hlln : 0 < l.length := by omega
                   clear hqr hqa hqdl hqrow hqv hqas hsz HF
                   generalize gi l 0 = g0 at *
                   go_cut [19, 20] (fun s19 s20 wx => ∃ (g : Nat) (a4 a5 : Option Addr) (c4 c5 : Nat), s19 = .pointer (some ⟨g, 0, none⟩) ∧ s20 = .int .i64 0 ∧ wx.heap[g]? = some (.cells #[.slice a4 qr.domains.length c4, .slice a5 qr.apart.length c5] 26 (0, 0)) ∧ PRd wx.heap.size wx qr (.slice a4 qr.domains.length c4) (.slice a5 qr.apart.length c5) ∧ Below M5.heap.size M5 wx ∧ g < wx.heap.size)
                   case first =>
                     refine wp_region_tree 11 (.read 0 (.read 1 (.read 2 (.read 3 (.two 4 9 (.two 5 9 (.read 6 (.read 7 (.read 8 (.one 9 (.one 10 .nil))))) (.one 5 (.read 6 (.read 7 (.read 8 (.one 10 .nil)))))) (.one 4 (.one 5 (.read 6 (.read 7 (.read 8 (.one 10 .nil))))))))))) (fun W => Below M5.heap.size M5 W) (by kernel_rfl) (by kernel_rfl) (BM2.out.drew) ?_
                     have YB := Lib.hid (BM2.out.drew)
                     have Yz : M5.heap.size ≤ M5.drew.heap.size := Nat.le_refl _
                     generalize M5.drew = Y at *
                     iterate 4
                       refine wpTree_read (v := ?_) rfl (fun _ _ _ h => h) ?_ ?_
                       rotate_left
                       · (intro W hSW; (try dsimp only at hSW); obtain ⟨t0, t1, t2⟩ := HDT.out W hSW; (go_simp <;> with_reducible rfl))
                       (try simp only [Act.put, List.setIfInBounds_toArray, List.set_cons_zero, List.set_cons_succ])
                     refine wpTree_two ?_ ?_
                     refine stepT_mk rfl (fun K hK => ?_)
                     go_simp
                     obtain ⟨Y1, hW1, hb1, zl1, hk1⟩ := boxes1 Y #[.int .i64 g0] 2
                     rw [hW1]
                     have Ykc1 := Lib.hid hk1
                     have YB1 := btr YB hb1
                     refine hK.out _ _ YB1.out ?_
                     have bs1 := hb1.size
                     clear hK K hW1 hk1 hb1
                     refine wpTree_two ?_ ?_
                     refine stepT_mk rfl (fun K hK => ?_)
                     go_simp
                     refine (CS.out _ _ (BM.out.trans (YB1.out.mono BM.out.size)) Ykc1.out).mono ?_
                     rintro e Y2 ⟨a4, c4, a5, c5, p4, rfl, hb2, ho2, hi2⟩
                     have YB2 := btr YB1 hb2
                     refine hK.out _ _ YB2.out ?_
                     clear hK K
                     have bs2 := hb2.size
                     have Yoq2 := Lib.hid ho2
                     have Yiq2 := Lib.hid hi2
                     clear ho2 hi2
                     have Ykc2 := bkH Ykc1 hb2
                     clear hb2
                     (try simp only [Act.put, List.setIfInBounds_toArray, List.set_cons_zero, List.set_cons_succ])
                     iterate 3
                       refine wpTree_read (v := ?_) rfl (fun _ _ _ h => h) ?_ ?_
                       rotate_left
                       · (intro W hSW; (try dsimp only at hSW); obtain ⟨t0, t1, t2⟩ := HDT.out W hSW; (go_simp <;> with_reducible rfl))
                       (try simp only [Act.put, List.setIfInBounds_toArray, List.set_cons_zero, List.set_cons_succ])
                     refine wpTree_one ?_
                     refine stepT_mk rfl (fun K hK => ?_)
                     go_simp
                     obtain ⟨Y3, hW3, hb3, zl3, hk3⟩ := boxes1 Y2 #[.slice none 0 0, .slice none 0 0] 26
                     rw [hW3]
                     have Ykt3 := Lib.hid hk3
                     have YB3 := btr YB2 hb3
                     have Yoq3 := Lib.hid (Yoq2.out.below Yiq2.out (by omega) hb3)
                     have Ykc3 := bkH Ykc2 hb3
                     refine hK.out _ _ YB3.out ?_
                     have bs3 := hb3.size
                     clear hK K hW3 hk3 hb3
                     refine wpTree_one ?_
                     refine stepT_mk rfl (fun K hK => ?_)
                     obtain ⟨g0, g1, fz⟩ := bz2 Ykt3.out
                     go_simp
                     obtain ⟨Y4, hW4, Ykt4, bs4, ho4, hl4⟩ := stAll Ykt3 [.slice a4 qr.domains.length c4, .slice a5 qr.apart.length c5] rfl
                     simp only [setsC] at hW4
                     rw [hW4]
                     have YB4 := Lib.hid (hl4.out M5 (by have := YB3.out.size; omega) YB3.out)
                     have Yoq4 := Lib.hid (Yoq3.out.frame (fun x hx => ho4.out x (fun e => by subst e; have := Yiq2.out _ hx; omega)))
                     have Ykc4 := Lib.hid ((ho4.out _ (by omega)).trans Ykc3.out)
                     refine hK.out _ _ YB4.out ?_
                     clear hK K fz hW4 ho4 hl4 g0 g1
                     refine wpTree_nil ?_
                     try simp only [List.drop_succ_cons, List.drop_zero]
                     go_wp2_with fail
                     go_meet
                     exact ⟨_, a4, a5, c4, c5, rfl, rfl, Ykt4.out, prd_of Yoq4.out Yiq2.out (by omega), YB4.out, by omega⟩
                     refine stepT_mk rfl (fun K hK => ?_)
                     go_simp
                     obtain ⟨Y5, hW5, hb5, zl5, hk5⟩ := boxes1 Y1 #[.slice none 0 0, .slice none 0 0] 26
                     rw [hW5]
                     have Ykt5 := Lib.hid hk5
                     have YB5 := btr YB1 hb5
                     have Ykc5 := bkH Ykc1 hb5
                     refine hK.out _ _ YB5.out ?_
                     have bs5 := hb5.size
                     clear hK K hW5 hk5 hb5
                     refine wpTree_one ?_
                     refine stepT_mk rfl (fun K hK => ?_)
                     go_simp
                     refine (CS.out _ _ (BM.out.trans (YB5.out.mono BM.out.size)) Ykc5.out).mono ?_
                     rintro e Y6 ⟨a4, c4, a5, c5, p4, rfl, hb6, ho6, hi6⟩
                     have YB6 := btr YB5 hb6
                     refine hK.out _ _ YB6.out ?_
                     clear hK K
                     have bs6 := hb6.size
                     have Yoq6 := Lib.hid ho6
                     have Yiq6 := Lib.hid hi6
                     clear ho6 hi6
                     have Ykc6 := bkH Ykc5 hb6
                     have Ykt6 := bkH Ykt5 hb6
                     clear hb6
                     (try simp only [Act.put, List.setIfInBounds_toArray, List.set_cons_zero, List.set_cons_succ])
                     iterate 3
                       refine wpTree_read (v := ?_) rfl (fun _ _ _ h => h) ?_ ?_
                       rotate_left
                       · (intro W hSW; (try dsimp only at hSW); obtain ⟨t0, t1, t2⟩ := HDT.out W hSW; (go_simp <;> with_reducible rfl))
                       (try simp only [Act.put, List.setIfInBounds_toArray, List.set_cons_zero, List.set_cons_succ])
                     refine wpTree_one ?_
                     refine stepT_mk rfl (fun K hK => ?_)
                     obtain ⟨g0, g1, fz⟩ := bz2 Ykt6.out
                     go_simp
                     obtain ⟨Y7, hW7, Ykt7, bs7, ho7, hl7⟩ := stAll Ykt6 [.slice a4 qr.domains.length c4, .slice a5 qr.apart.length c5] rfl
                     simp only [setsC] at hW7
                     rw [hW7]
                     have YB7 := Lib.hid (hl7.out M5 (by have := YB6.out.size; omega) YB6.out)
                     have Yoq7 := Lib.hid (Yoq6.out.frame (fun x hx => ho7.out x (fun e => by subst e; have := Yiq6.out _ hx; omega)))
                     have Ykc7 := Lib.hid ((ho7.out _ (by omega)).trans Ykc6.out)
                     refine hK.out _ _ YB7.out ?_
                     clear hK K fz hW7 ho7 hl7 g0 g1
                     refine wpTree_nil ?_
                     try simp only [List.drop_succ_cons, List.drop_zero]
                     go_wp2_with fail
                     go_meet
                     exact ⟨_, a4, a5, c4, c5, rfl, rfl, Ykt7.out, prd_of Yoq7.out Yiq6.out (by omega), YB7.out, by omega⟩
                     refine stepT_mk rfl (fun K hK => ?_)
                     go_simp
                     obtain ⟨Y8, hW8, hb8, zl8, hk8⟩ := boxes1 Y #[.slice none 0 0, .slice none 0 0] 26
                     rw [hW8]
                     have Ykt8 := Lib.hid hk8
                     have YB8 := btr YB hb8
                     refine hK.out _ _ YB8.out ?_
                     have bs8 := hb8.size
                     clear hK K hW8 hk8 hb8
                     refine wpTree_one ?_
                     refine stepT_mk rfl (fun K hK => ?_)
                     go_simp
                     obtain ⟨Y9, hW9, hb9, zl9, hk9⟩ := boxes1 Y8 #[.int .i64 g0] 2
                     rw [hW9]
                     have Ykc9 := Lib.hid hk9
                     have YB9 := btr YB8 hb9
                     have Ykt9 := bkH Ykt8 hb9
                     refine hK.out _ _ YB9.out ?_
                     have bs9 := hb9.size
                     clear hK K hW9 hk9 hb9
                     refine wpTree_one ?_
                     refine stepT_mk rfl (fun K hK => ?_)
                     go_simp
                     refine (CS.out _ _ (BM.out.trans (YB9.out.mono BM.out.size)) Ykc9.out).mono ?_
                     rintro e Y10 ⟨a4, c4, a5, c5, p4, rfl, hb10, ho10, hi10⟩
                     have YB10 := btr YB9 hb10
                     refine hK.out _ _ YB10.out ?_
                     clear hK K
                     have bs10 := hb10.size
                     have Yoq10 := Lib.hid ho10
                     have Yiq10 := Lib.hid hi10
                     clear ho10 hi10
                     have Ykt10 := bkH Ykt9 hb10
                     have Ykc10 := bkH Ykc9 hb10
                     clear hb10
                     (try simp only [Act.put, List.setIfInBounds_toArray, List.set_cons_zero, List.set_cons_succ])
                     iterate 3
                       refine wpTree_read (v := ?_) rfl (fun _ _ _ h => h) ?_ ?_
                       rotate_left
                       · (intro W hSW; (try dsimp only at hSW); obtain ⟨t0, t1, t2⟩ := HDT.out W hSW; (go_simp <;> with_reducible rfl))
                       (try simp only [Act.put, List.setIfInBounds_toArray, List.set_cons_zero, List.set_cons_succ])
                     refine wpTree_one ?_
                     refine stepT_mk rfl (fun K hK => ?_)
                     obtain ⟨g0, g1, fz⟩ := bz2 Ykt10.out
                     go_simp
                     obtain ⟨Y11, hW11, Ykt11, bs11, ho11, hl11⟩ := stAll Ykt10 [.slice a4 qr.domains.length c4, .slice a5 qr.apart.length c5] rfl
                     simp only [setsC] at hW11
                     rw [hW11]
                     have YB11 := Lib.hid (hl11.out M5 (by have := YB10.out.size; omega) YB10.out)
                     have Yoq11 := Lib.hid (Yoq10.out.frame (fun x hx => ho11.out x (fun e => by subst e; have := Yiq10.out _ hx; omega)))
                     have Ykc11 := Lib.hid ((ho11.out _ (by omega)).trans Ykc10.out)
                     refine hK.out _ _ YB11.out ?_
                     clear hK K fz hW11 ho11 hl11 g0 g1
                     refine wpTree_nil ?_
                     try simp only [List.drop_succ_cons, List.drop_zero]
                     go_wp2_with fail
                     go_meet
                     exact ⟨_, a4, a5, c4, c5, rfl, rfl, Ykt11.out, prd_of Yoq11.out Yiq10.out (by omega), YB11.out, by omega⟩
                   obtain ⟨g, a4, a5, c4, c5, rfl, rfl, kg, rq, hb_, hg⟩ := hcut
                   generalize wc = M6 at *
                   have KG := Lib.hid kg
                   have RQ := Lib.hid rq
                   have BM6 : Hid (Below M.heap.size M M6) := BM.out.trans (hb_.mono BM.out.size)
                   have zz6 := hb_.size
                   have HD0 : Hid (∀ W, Below M5.heap.size M5 W → W.cell? ⟨bl, bo, none⟩ = some (.int .i64 g0)) := fun W hW => (HDT.out W hW).2.2
                   clear kg rq CS BM2 HDT
                   as_aux_lemma =>
                    go_upto_region 32 with (fail)
                    obtain ⟨_, _, hq, _, _, hrow⟩ := RQ.out.d.rowAt
                    injection hq with u1 _ u2
                    subst u1 u2
                    have hqp : 0 < qr.domains.length := by have := HQD.out; omega
                    obtain ⟨br, ro, rfl, hbr, hat⟩ := hrow hqp
                    obtain ⟨ar, cr, u0, _, _, hrd, _⟩ := hat 0 hqp
                    rw [HQR.out] at u0 hrd
                    simp only [List.length_singleton, Nat.add_zero] at u0 hrd
                    obtain ⟨_, q1, _, q3, q4⟩ := HDM.out _ BM6.out
                    obtain ⟨u3, u4⟩ : M6.cell? ⟨g, 0, none⟩ = some (.slice (some ⟨br, ro, none⟩) qr.domains.length c4) ∧ M6.cell? ⟨g, 1, none⟩ = some (.slice a5 qr.apart.length c5) := ⟨bkC KG.out 0 rfl, bkC KG.out 1 rfl⟩
                    have u5 := HD0.out _ hb_
                    have hB0 : w1.heap.size < M6.heap.size := cell_lt' q3
                    have hbl0 : bl < M6.heap.size := cell_lt' u5
                    have hcf : M6.cell? ⟨g, 0, none⟩ = some (.slice (some ⟨br, ro, none⟩) qr.domains.length c4) ∧ M6.cell? ⟨g, 1, none⟩ = some (.slice a5 qr.apart.length c5) ∧ M6.cell? ⟨w1.heap.size, 0, none⟩ = some (.slice a0 p.domains.length c0) ∧ M6.cell? ⟨bl, bo, none⟩ = some (.int .i64 g0) ∧ M6.cell? ⟨br, ro, none⟩ = some (.slice ar 1 cr) := ⟨u3, u4, q3, u5, u0⟩
                    have HK : Hid (∀ W : World, Below M6.heap.size M6 W → W.cell? ⟨g, 0, none⟩ = some (.slice (some ⟨br, ro, none⟩) qr.domains.length c4) ∧ W.cell? ⟨g, 1, none⟩ = some (.slice a5 qr.apart.length c5) ∧ W.cell? ⟨w1.heap.size, 0, none⟩ = some (.slice a0 p.domains.length c0) ∧ W.cell? ⟨bl, bo, none⟩ = some (.int .i64 g0) ∧ W.cell? ⟨br, ro, none⟩ = some (.slice ar 1 cr)) := fun W h => ⟨(bat h _ _ hg).trans u3, (bat h _ _ hg).trans u4, (bat h _ _ hB0).trans q3, (bat h _ _ hbl0).trans u5, (bat h _ _ hbr).trans u0⟩
                    have CE : Hid (∀ W : World, Below M6.heap.size M6 W → Calls Try.prog 13 #[.slice ar 1 cr, .slice (some ⟨W.heap.size, 0, none⟩) 1 1] (W.alloc (.cells #[.int .i64 g0] 2)) fun e w' => e = .returned (.bool true) ∧ Below (W.alloc (.cells #[.int .i64 g0] 2)).heap.size (W.alloc (.cells #[.int .i64 g0] 2)) w') := fun W hW => by
                      have hba := below_alloc W (.cells #[.int .i64 g0] 2)
                      have hk := bkN W #[.int .i64 g0] 2
                      have hr : Rd (W.alloc (.cells #[.int .i64 g0] 2)).heap.size (W.alloc (.cells #[.int .i64 g0] 2)) (intsT [g0]) (.slice (some ⟨W.heap.size, 0, none⟩) 1 1) := ⟨[W.heap.size], Rep_sl.2 ⟨_, 1, 1, rfl, rfl, Nat.le_refl _, by unfold maxLen; omega, Or.inr ⟨W.heap.size, 0, [], by simp, rfl, rfl, Reps_cons.2 ⟨.int .i64 g0, [], [], bkC hk 0 rfl, Rep_lit.2 ⟨rfl, rfl⟩, Reps_nil.2 rfl, rfl⟩⟩⟩, fun b hb => by simp at hb ⊢; omega⟩
                      exact r8Same_one g0 _ _ _ ((hrd.below (hW.trans (hba.mono hW.size))).mono (by have := hW.size; have := hba.size; omega)) hr
                    have CL : Hid (∀ W : World, Below M6.heap.size M6 W → Calls Try.prog 8 #[.agg #[.slice (some ⟨br, ro, none⟩) qr.domains.length c4, .slice a5 qr.apart.length c5], .slice (some ⟨bl, bo, none⟩) l.length cl] W fun e w' => e = .returned (.bool F) ∧ Below W.heap.size W w') := fun W hW => by
                      have := iValidAsg_any qr l _ _ _ W ((RQ.out.d.below hW).mono hW.size) ((RQ.out.a.below hW).mono hW.size) (HDM.out W (BM6.out.trans (hW.mono BM6.out.size))).2.1 HQV.out HQA.out
                      rw [HQF.out] at this
                      exact this
                    have e1 : ((qr.domains.length : Int) == (p.domains.length : Int)) = true := by rw [beq_iff_eq]; have := HQD.out; omega
                    have e2 : (F == F) = true := by simp
                    have hqpi : (0 : Int) < (qr.domains.length : Int) := by omega
                    have BF : Hid (Below w.heap.size w M6) := BWM.out.trans (BM6.out.mono BWM.out.size)
                    have yM : Hid (w.heap.size ≤ M6.heap.size) := BF.out.size
                    clear hrow hat hrd q1 HDM u0 u3 u4 u5 q3 q4 HQV HQA HQF HQD HQR RQ KG HD0 hb_ BM6 BWM BM HV HA HI
                    go_region_held3 (fun W => W.cell? ⟨g, 0, none⟩ = some (.slice (some ⟨br, ro, none⟩) qr.domains.length c4) ∧ W.cell? ⟨g, 1, none⟩ = some (.slice a5 qr.apart.length c5) ∧ W.cell? ⟨w1.heap.size, 0, none⟩ = some (.slice a0 p.domains.length c0) ∧ W.cell? ⟨bl, bo, none⟩ = some (.int .i64 g0) ∧ W.cell? ⟨br, ro, none⟩ = some (.slice ar 1 cr)) (first | exact hcf | exact HK.out _ (below_drew1 M6) | (exact HK.out _ (by repeat (first | (with_reducible exact K3.out) | (with_reducible exact K2.out) | (with_reducible exact Below.refl _ _) | (with_reducible refine Below.alloc ?_ (by first | exact Nat.le_refl _ | omega | (simp; done) | (simp; omega)) _) | (with_reducible refine Below.drew ?_))))) (first | (go_at_call 13; refine (CE.out _ (by first | exact below_drew1 M6 | exact Below.refl _ _)).mono ?_; rintro e' w8 ⟨rfl, hb8⟩; have K2 : Hid (Below M6.heap.size M6 w8) := ((by repeat (first | (with_reducible exact K3.out) | (with_reducible exact K2.out) | (with_reducible exact Below.refl _ _) | (with_reducible refine Below.alloc ?_ (by first | exact Nat.le_refl _ | omega | (simp; done) | (simp; omega)) _) | (with_reducible refine Below.drew ?_))) : Below M6.heap.size M6 _).trans (hb8.mono (by first | exact Nat.le_refl _ | (simp; done) | (simp; omega))); clear hb8) | (go_at_call 8; refine (CL.out _ K2.out).mono ?_; rintro e' w9 ⟨rfl, hb9⟩; have K3 : Hid (Below M6.heap.size M6 w9) := K2.out.trans (hb9.mono K2.out.size); clear hb9))
                    all_goals (go_wp2_with (fail))
                    all_goals go_ret
                    all_goals exact ⟨rfl, BF.out.trans (K3.out.mono yM.out)⟩
end Go.Proofs.Ytpnllibboeeaaaa.fnProblems
