/- Contract: a copy of a network, for the reference. Conditions: bounded lengths. -/
import Derived.Test.YtppgcgopnchbcaaGreatNetJ
namespace Go.Proofs.YtppgcgopnchbcaaGreat
open Go.RowKit
set_option linter.unusedVariables false

theorem Grow.slice {w : World} {base E size n : Nat} {v : Value} {ts : List Tr} {f : List Nat} (h : Grow w base E size v n ts f) : ∃ a c, v = .slice a n c := by
  obtain ⟨xs, ho, _⟩ := h.own
  obtain ⟨a, c, e, _⟩ := ownsRow_slice ho
  exact ⟨a, c, e⟩
def OutP (n : DNetwork) (w : World) (s3 : Value) (wx : World) : Prop := ∃ (h : Nat) (a0 : Option Addr) (c0 : Nat) (a1 : Option Addr) (c1 : Nat) (f0 f1 : List Nat), s3 = .pointer (some ⟨h, 0, none⟩) ∧ w.heap.size < h ∧ h < wx.heap.size ∧ wx.heap[h]? = some (.cells #[.slice a0 n.sites.length c0, .slice a1 n.sectors.length c1, .slice none 0 0, .slice none 0 0] 35 (0, 0)) ∧
  wx.heap[w.heap.size]? = some (.cells #[.slice none 0 0, .slice none 0 0, .slice none 0 0, .slice none 0 0] 35 (0, 0)) ∧ Own wx (DSite.sT n.sites) (.slice a0 n.sites.length c0) f0 ∧ Own wx (DSector.sT n.sectors) (.slice a1 n.sectors.length c1) f1 ∧ (∀ x ∈ f0, (w.heap.size < x ∧ x < wx.heap.size) ∧ x ≠ h ∧ x ∉ f1) ∧ (∀ x ∈ f1, (w.heap.size < x ∧ x < wx.heap.size) ∧ x ≠ h) ∧ Below w.heap.size w wx
theorem grown_in {w w' : World} {base E k n m : Nat} {v v' : Value} {xs : List Value} {fp : List Nat} {g : Nat} (hv : v.ownBlock = some g) (hat : v'.ownBlock = v.ownBlock ∨ v'.ownBlock = some w.heap.size) (hl : w.heap.size < w'.heap.size ∨ v'.ownBlock = v.ownBlock) (hd : ∀ x ∈ fp, v'.ownBlock = some x ∨ x ∈ ([] : List Nat)) (hlt : ∀ x ∈ fp, x < w'.heap.size) : ∀ x ∈ fp, x = g ∨ (w.heap.size ≤ x ∧ x < w'.heap.size) := fun x hx => by
  rcases hd x hx with h | h
  · rcases hat with e | e
    · rw [e, hv] at h; injection h with h; exact Or.inl h.symm
    · rw [e] at h; injection h with h; exact Or.inr ⟨by omega, hlt x hx⟩
  · simp at h
theorem Chg.thenBelow {fp : List Nat} {a b c : World} (h : Chg fp a b) (k : Below a.heap.size b c) : Chg fp a c := ⟨k.os.trans h.os, k.tape.trans h.tape, k.output.trans h.output, Nat.le_trans h.size k.size, fun x hx hn => (k.block x hx).trans (h.block x hx hn)⟩
set_option maxHeartbeats 16000000 in
set_option maxRecDepth 100000 in
theorem l14Own_any (n : DNetwork) (v0 v1 v2 v3 : Value) (bp : Nat) (w : World) (r0 : Rd w.heap.size w (DSite.sT n.sites) v0) (r1 : Rd w.heap.size w (DSector.sT n.sectors) v1) (r2 : Rd w.heap.size w (DAntenna.sT n.antennas) v2) (r3 : Rd w.heap.size w (DRadio.sT n.radios) v3) (hbp : bp < w.heap.size) (p0 : w.cell? ⟨bp, 0, none⟩ = some v0) (p1 : w.cell? ⟨bp, 1, none⟩ = some v1) (p2 : w.cell? ⟨bp, 2, none⟩ = some v2) (p3 : w.cell? ⟨bp, 3, none⟩ = some v3) (hs : sizL n.tr ≤ 1048576) :
    Calls Tryz.prog 39 #[.pointer (some ⟨bp, 0, none⟩)] w (NetP n w) := by
  have hsum := DNetwork.siz_tr n
  have q0 := DSite.siz_s n.sites
  have q1 := DSector.siz_s n.sectors
  have q2 := DAntenna.siz_s n.antennas
  have q3 := DRadio.siz_s n.radios
  have l0 : n.sites.length ≤ 1048576 := by omega
  have l1 : n.sectors.length ≤ 1048576 := by omega
  have l2 : n.antennas.length ≤ 1048576 := by omega
  have l3 : n.radios.length ≤ 1048576 := by omega
  have LA : Hid (∀ k (h : k < n.antennas.length), n.antennas[k].horizontal.length ≤ 1048576 ∧ n.antennas[k].vertical.length ≤ 1048576) := fun k h => by
    have h1 := sizL_get_le DAntenna.tr n.antennas k h
    have h2 := DAntenna.siz_tr n.antennas[k]
    rw [siz_ints, siz_ints] at h2
    omega
  have LR : Hid (∀ k (h : k < n.radios.length), n.radios[k].modes.length ≤ 1048576) := fun k h => by
    have h1 := sizL_get_le DRadio.tr n.radios k h
    have h2 := DRadio.siz_tr n.radios[k]
    rw [DMode.siz_s] at h2
    omega
  obtain ⟨iS, hS0, hS1, hS2, hS3⟩ := info_parts infoSite
  obtain ⟨iT, hT0, hT1, hT2, hT3⟩ := info_parts infoSector
  obtain ⟨iA, hA0, hA1, hA2, hA3⟩ := info_parts infoAntenna
  obtain ⟨iR, hR0, hR1, hR2, hR3⟩ := info_parts infoRadio
  obtain ⟨A0, C0, x0, rfl, -, -, d0, X0, o0⟩ := DSite.raw r0
  obtain ⟨A1, C1, x1, rfl, -, -, d1, X1, o1⟩ := DSector.raw r1
  obtain ⟨A2, C2, e2, -, -, ca⟩ := DAntenna.rd r2
  obtain ⟨A3, C3, e3, -, -, cr⟩ := DRadio.rd r3
  subst e2 e3
  have DS0 := Lib.hid d0
  have DS1 := Lib.hid d1
  have XS0 := Lib.hid X0
  have XS1 := Lib.hid X1
  have ON0 := Lib.hid o0
  have ON1 := Lib.hid o1
  have CA := Lib.hid ca
  have CR := Lib.hid cr
  have P0 := Lib.hid p0
  have P1 := Lib.hid p1
  have P2 := Lib.hid p2
  have P3 := Lib.hid p3
  clear hsum q0 q1 q2 q3 d0 d1 X0 X1 o0 o1 ca cr p0 p1 p2 p3 r0 r1 r2 r3
  have BB0 : Hid (Below w.heap.size w (w.alloc (.cells #[.slice none 0 0, .slice none 0 0, .slice none 0 0, .slice none 0 0] 35)).drew) := ((Below.refl _ _).alloc (Nat.le_refl _) _).drew
  have KR0 : Hid ((w.alloc (.cells #[.slice none 0 0, .slice none 0 0, .slice none 0 0, .slice none 0 0] 35)).drew.heap[w.heap.size]? = some (.cells #[.slice none 0 0, .slice none 0 0, .slice none 0 0, .slice none 0 0] 35 (0, 0))) := blkN w _ _
  have z0 : w.heap.size + 1 ≤ (w.alloc (.cells #[.slice none 0 0, .slice none 0 0, .slice none 0 0, .slice none 0 0] 35)).drew.heap.size := by show _ ≤ (w.alloc _).heap.size; simp
  go_enter Tryz.func39, Tryz.ntmps39
  go_wp2
  go_cut [3] (fun s3 wx => OutP n w s3 wx)
  case first =>
    refine wp_region_tree 14 (.read 1 (.read 2 (.read 3 (.read 4 (.read 7 (.read 8 (.read 9 (.read 10 (.three 0 6 13 (.three 5 6 13 (.two 6 13 (.two 11 13 (.read 12 (.one 13 .nil)) (.one 11 (.read 12 .nil))) (.one 6 (.one 11 (.read 12 .nil)))) (.two 5 13 (.two 11 13 (.read 12 (.one 13 .nil)) (.one 11 (.read 12 .nil))) (.one 5 (.one 11 (.read 12 .nil)))) (.two 5 6 (.one 6 (.one 11 (.read 12 .nil))) (.one 5 (.one 11 (.read 12 .nil))))) (.two 0 13 (.two 5 13 (.two 11 13 (.read 12 (.one 13 .nil)) (.one 11 (.read 12 .nil))) (.one 5 (.one 11 (.read 12 .nil)))) (.one 0 (.one 5 (.one 11 (.read 12 .nil))))) (.two 0 6 (.two 5 6 (.one 6 (.one 11 (.read 12 .nil))) (.one 5 (.one 11 (.read 12 .nil)))) (.one 0 (.one 5 (.one 11 (.read 12 .nil)))))))))))))) (fun W => W.cell? ⟨bp, 0, none⟩ = some (.slice A0 n.sites.length C0) ∧ W.cell? ⟨bp, 1, none⟩ = some (.slice A1 n.sectors.length C1)) (by kernel_rfl) (by kernel_rfl) (⟨(bat (BB0.out) bp _ hbp).trans P0.out, (bat (BB0.out) bp _ hbp).trans P1.out⟩) ?_
    generalize (w.alloc (.cells #[.slice none 0 0, .slice none 0 0, .slice none 0 0, .slice none 0 0] 35)).drew = Y at *
    refine wpTree_read (v := ?_) rfl (fun _ _ _ h => h) ?_ ?_
    rotate_left
    · (intro W hSW; (try dsimp only at hSW); (go_simp <;> with_reducible rfl))
    (try simp only [Act.put, List.setIfInBounds_toArray, List.set_cons_zero, List.set_cons_succ])
    refine wpTree_read (v := ?_) rfl (fun _ _ _ h => h) ?_ ?_
    rotate_left
    · (intro W hSW; (try dsimp only at hSW); (go_simp <;> with_reducible rfl))
    (try simp only [Act.put, List.setIfInBounds_toArray, List.set_cons_zero, List.set_cons_succ])
    refine wpTree_read (v := ?_) rfl (fun _ _ _ h => h) ?_ ?_
    rotate_left
    · (intro W hSW; (try dsimp only at hSW); (go_simp <;> with_reducible rfl))
    (try simp only [Act.put, List.setIfInBounds_toArray, List.set_cons_zero, List.set_cons_succ])
    refine wpTree_read (v := ?_) rfl (fun _ _ _ h => h) ?_ ?_
    rotate_left
    · (intro W hSW; (try dsimp only at hSW); (go_simp <;> with_reducible rfl))
    (try simp only [Act.put, List.setIfInBounds_toArray, List.set_cons_zero, List.set_cons_succ])
    refine wpTree_read (v := ?_) rfl (fun _ _ _ h => h) ?_ ?_
    rotate_left
    · (intro W hSW; (try dsimp only at hSW); (go_simp <;> with_reducible rfl))
    (try simp only [Act.put, List.setIfInBounds_toArray, List.set_cons_zero, List.set_cons_succ])
    refine wpTree_read (v := ?_) rfl (fun _ _ _ h => h) ?_ ?_
    rotate_left
    · (intro W hSW; (try dsimp only at hSW); (go_simp <;> with_reducible rfl))
    (try simp only [Act.put, List.setIfInBounds_toArray, List.set_cons_zero, List.set_cons_succ])
    refine wpTree_read (v := ?_) rfl (fun _ _ _ h => h) ?_ ?_
    rotate_left
    · (intro W hSW; (try dsimp only at hSW); (go_simp <;> with_reducible rfl))
    (try simp only [Act.put, List.setIfInBounds_toArray, List.set_cons_zero, List.set_cons_succ])
    refine wpTree_read (v := ?_) rfl (fun _ _ _ h => h) ?_ ?_
    rotate_left
    · (intro W hSW; (try dsimp only at hSW); (go_simp <;> with_reducible rfl))
    (try simp only [Act.put, List.setIfInBounds_toArray, List.set_cons_zero, List.set_cons_succ])
    refine wpTree_three ?_ ?_ ?_
    · refine stepT_mk rfl (fun K hK => ?_)
      go_simp
      have b1 : Below Y.heap.size Y (Y.alloc (.cells #[] 62)) := (Below.refl _ _).alloc (Nat.le_refl _) _
      have e1 : Hid ((Y.alloc (.cells #[] 62)).ownsRow Y.heap.size 62 4 (.slice (some ⟨Y.heap.size, 0, none⟩) 0 0) 0 []) := own_emptyK Y 62 4
      have zz1 : Y.heap.size + 1 ≤ (Y.alloc (.cells #[] 62)).heap.size := by simp
      refine hK.out _ _ (⟨(bat (BB0.out.trans (b1.mono (by omega))) bp _ hbp).trans P0.out, (bat (BB0.out.trans (b1.mono (by omega))) bp _ hbp).trans P1.out⟩) ?_
      clear hK K
      (try simp only [Act.put, List.setIfInBounds_toArray, List.set_cons_zero, List.set_cons_succ])
      generalize (Y.alloc (.cells #[] 62)) = Y1 at *
      have BB1 := Lib.hid (BB0.out.trans (b1.mono (by omega)))
      have KR1 := Lib.hid (blkB KR0.out b1 (by omega))
      have bs1 : Y.heap.size ≤ Y1.heap.size := b1.size
      clear b1
      refine wpTree_three ?_ ?_ ?_
      · refine stepT_mk rfl (fun K hK => ?_)
        refine wp_append_any _ (.tmp 6) (.tmp 10) _ rfl Y.heap.size 62 iS _ 4 48 Tryz.underlying30 hS0 hS1 hS2 hS3 rfl (by omega) (.slice (some ⟨Y.heap.size, 0, none⟩) 0 0) 0 [] rfl e1.out w.heap.size A0 n.sites.length C0 x0 rfl (DS0.out.below BB1.out) ON0.out (by simp only [maxLen]; omega) (by omega) (by omega) ?_
        intro v2_ Y2 hown hg hat
        simp only [Nat.zero_add, List.nil_append] at hown
        have bs2 : Y1.heap.size ≤ Y2.heap.size := hg.size
        have b2 : Below Y.heap.size Y1 Y2 := (Below.refl _ _).grown hg (by omega) (fun k hk => by simp [Value.ownBlock] at hk; omega)
        have kp2 : Hid (∀ b, b < Y1.heap.size → b ≠ Y.heap.size → Y2.heap[b]? = Y1.heap[b]?) := fun b hb hne => hg.block b hb (fun e => hne (by simpa [Value.ownBlock] using e))
        obtain ⟨f0, of_, if_, df_⟩ := (grow_Site hown XS0.out).toOwnB (lo := Y.heap.size) (by decide) In.nil (Nat.le_refl _)
        obtain ⟨a0, c0, ev, -⟩ := ownsRow_slice hown
        subst ev
        have fb0 : Hid (∀ y ∈ f0, y = Y.heap.size ∨ (Y1.heap.size ≤ y ∧ y < Y2.heap.size)) := fun y hy => by
          rcases df_ y hy with h | h
          · rcases hat with e | e
            · rw [e] at h; left; simpa [Value.ownBlock] using h.symm
            · rw [e] at h; injection h with h; exact Or.inr ⟨by omega, (if_ y hy).2⟩
          · simp at h
        have of0_2 := Lib.hid of_
        have ii0 := if_
        clear hown hg hat of_ if_ df_
        refine hK.out _ _ (⟨(bat (BB1.out.trans (b2.mono (by omega))) bp _ hbp).trans P0.out, (bat (BB1.out.trans (b2.mono (by omega))) bp _ hbp).trans P1.out⟩) ?_
        clear hK K
        (try simp only [Act.put, List.setIfInBounds_toArray, List.set_cons_zero, List.set_cons_succ])
        have BB2 := Lib.hid (BB1.out.trans (b2.mono (by omega)))
        have KR2 := Lib.hid ((kp2.out w.heap.size (by omega) (by omega)).trans KR1.out)
        clear b2
        refine wpTree_two ?_ ?_
        · refine stepT_mk rfl (fun K hK => ?_)
          go_simp
          have b3 : Below Y2.heap.size Y2 (Y2.alloc (.cells #[] 49)) := (Below.refl _ _).alloc (Nat.le_refl _) _
          have e3 : Hid ((Y2.alloc (.cells #[] 49)).ownsRow Y2.heap.size 49 9 (.slice (some ⟨Y2.heap.size, 0, none⟩) 0 0) 0 []) := own_emptyK Y2 49 9
          have zz3 : Y2.heap.size + 1 ≤ (Y2.alloc (.cells #[] 49)).heap.size := by simp
          refine hK.out _ _ (⟨(bat (BB2.out.trans (b3.mono (by omega))) bp _ hbp).trans P0.out, (bat (BB2.out.trans (b3.mono (by omega))) bp _ hbp).trans P1.out⟩) ?_
          clear hK K
          (try simp only [Act.put, List.setIfInBounds_toArray, List.set_cons_zero, List.set_cons_succ])
          generalize (Y2.alloc (.cells #[] 49)) = Y3 at *
          have BB3 := Lib.hid (BB2.out.trans (b3.mono (by omega)))
          have KR3 := Lib.hid (blkB KR2.out b3 (by omega))
          have of0_3 := Lib.hid (of0_2.out.frame (fun b hb => b3.block b (by have := fb0.out b hb; omega)))
          have bs3 : Y2.heap.size ≤ Y3.heap.size := b3.size
          clear b3
          refine wpTree_two ?_ ?_
          · refine stepT_mk rfl (fun K hK => ?_)
            refine wp_append_any _ (.tmp 12) (.tmp 16) _ rfl Y2.heap.size 49 iT _ 9 112 Tryz.underlying31 hT0 hT1 hT2 hT3 rfl (by omega) (.slice (some ⟨Y2.heap.size, 0, none⟩) 0 0) 0 [] rfl e3.out w.heap.size A1 n.sectors.length C1 x1 rfl (DS1.out.below BB3.out) ON1.out (by simp only [maxLen]; omega) (by omega) (by omega) ?_
            intro v4_ Y4 hown hg hat
            simp only [Nat.zero_add, List.nil_append] at hown
            have bs4 : Y3.heap.size ≤ Y4.heap.size := hg.size
            have b4 : Below Y2.heap.size Y3 Y4 := (Below.refl _ _).grown hg (by omega) (fun k hk => by simp [Value.ownBlock] at hk; omega)
            have kp4 : Hid (∀ b, b < Y3.heap.size → b ≠ Y2.heap.size → Y4.heap[b]? = Y3.heap[b]?) := fun b hb hne => hg.block b hb (fun e => hne (by simpa [Value.ownBlock] using e))
            obtain ⟨f1, of_, if_, df_⟩ := (grow_Sector hown XS1.out).toOwnB (lo := Y2.heap.size) (by decide) In.nil (Nat.le_refl _)
            obtain ⟨a1, c1, ev, -⟩ := ownsRow_slice hown
            subst ev
            have fb1 : Hid (∀ y ∈ f1, y = Y2.heap.size ∨ (Y3.heap.size ≤ y ∧ y < Y4.heap.size)) := fun y hy => by
              rcases df_ y hy with h | h
              · rcases hat with e | e
                · rw [e] at h; left; simpa [Value.ownBlock] using h.symm
                · rw [e] at h; injection h with h; exact Or.inr ⟨by omega, (if_ y hy).2⟩
              · simp at h
            have of1_4 := Lib.hid of_
            have ii1 := if_
            clear hown hg hat of_ if_ df_
            refine hK.out _ _ (⟨(bat (BB3.out.trans (b4.mono (by omega))) bp _ hbp).trans P0.out, (bat (BB3.out.trans (b4.mono (by omega))) bp _ hbp).trans P1.out⟩) ?_
            clear hK K
            (try simp only [Act.put, List.setIfInBounds_toArray, List.set_cons_zero, List.set_cons_succ])
            have BB4 := Lib.hid (BB3.out.trans (b4.mono (by omega)))
            have KR4 := Lib.hid ((kp4.out w.heap.size (by omega) (by omega)).trans KR3.out)
            have of0_4 := Lib.hid (of0_3.out.frame (fun b hb => kp4.out b (by have := fb0.out b hb; omega) (by have := fb0.out b hb; omega)))
            clear b4
            refine wpTree_read (v := ?_) rfl (fun _ _ _ h => h) ?_ ?_
            rotate_left
            · (intro W hSW; (try dsimp only at hSW); (go_simp <;> with_reducible rfl))
            (try simp only [Act.put, List.setIfInBounds_toArray, List.set_cons_zero, List.set_cons_succ])
            refine wpTree_one ?_
            refine stepT_mk rfl (fun K hK => ?_)
            go_simp
            have b5 : Below Y4.heap.size Y4 (Y4.alloc (.cells #[.slice none 0 0, .slice none 0 0, .slice none 0 0, .slice none 0 0] 35)) := (Below.refl _ _).alloc (Nat.le_refl _) _
            have e5 : Hid ((Y4.alloc (.cells #[.slice none 0 0, .slice none 0 0, .slice none 0 0, .slice none 0 0] 35)).heap[Y4.heap.size]? = some (.cells #[.slice none 0 0, .slice none 0 0, .slice none 0 0, .slice none 0 0] 35 (0, 0))) := blkN Y4 _ _
            have zz5 : Y4.heap.size + 1 ≤ (Y4.alloc (.cells #[.slice none 0 0, .slice none 0 0, .slice none 0 0, .slice none 0 0] 35)).heap.size := by simp
            refine hK.out _ _ (⟨(bat (BB4.out.trans (b5.mono (by omega))) bp _ hbp).trans P0.out, (bat (BB4.out.trans (b5.mono (by omega))) bp _ hbp).trans P1.out⟩) ?_
            clear hK K
            (try simp only [Act.put, List.setIfInBounds_toArray, List.set_cons_zero, List.set_cons_succ])
            generalize (Y4.alloc (.cells #[.slice none 0 0, .slice none 0 0, .slice none 0 0, .slice none 0 0] 35)) = Y5 at *
            have BB5 := Lib.hid (BB4.out.trans (b5.mono (by omega)))
            have KR5 := Lib.hid (blkB KR4.out b5 (by omega))
            have of0_5 := Lib.hid (of0_4.out.frame (fun b hb => b5.block b (by have := fb0.out b hb; omega)))
            have of1_5 := Lib.hid (of1_4.out.frame (fun b hb => b5.block b (by have := fb1.out b hb; omega)))
            have bs5 : Y4.heap.size ≤ Y5.heap.size := b5.size
            clear b5
            refine wpTree_nil ?_
            simp only [List.drop_succ_cons, List.drop_zero]
            obtain ⟨g0, g1, g2, g3⟩ := blk4 e5.out
            have fz := blkF e5.out
            have kf_ : ((((Y5.setCell ⟨Y4.heap.size, 0, none⟩ (.slice a0 n.sites.length c0)).setCell ⟨Y4.heap.size, 1, none⟩ (.slice a1 n.sectors.length c1)).setCell ⟨Y4.heap.size, 2, none⟩ (.slice none 0 0)).setCell ⟨Y4.heap.size, 3, none⟩ (.slice none 0 0)).heap[Y4.heap.size]? = some (.cells #[.slice a0 n.sites.length c0, .slice a1 n.sectors.length c1, .slice none 0 0, .slice none 0 0] 35 (0, 0)) := by
              have := blkS (blkS (blkS (blkS e5.out 0 (.slice a0 n.sites.length c0)) 1 (.slice a1 n.sectors.length c1)) 2 (.slice none 0 0)) 3 (.slice none 0 0)
              simpa using this
            have kf := Lib.hid kf_
            clear kf_
            have BF := Lib.hid (((((BB5.out).setCell (p := ⟨Y4.heap.size, 0, none⟩) (by show w.heap.size ≤ Y4.heap.size; omega) (.slice a0 n.sites.length c0)).setCell (p := ⟨Y4.heap.size, 1, none⟩) (by show w.heap.size ≤ Y4.heap.size; omega) (.slice a1 n.sectors.length c1)).setCell (p := ⟨Y4.heap.size, 2, none⟩) (by show w.heap.size ≤ Y4.heap.size; omega) (.slice none 0 0)).setCell (p := ⟨Y4.heap.size, 3, none⟩) (by show w.heap.size ≤ Y4.heap.size; omega) (.slice none 0 0))
            have O0F := Lib.hid (((((of0_5.out).setFar (p := ⟨Y4.heap.size, 0, none⟩) (fun e => by have := fb0.out _ e; simp only at this; omega) (.slice a0 n.sites.length c0)).setFar (p := ⟨Y4.heap.size, 1, none⟩) (fun e => by have := fb0.out _ e; simp only at this; omega) (.slice a1 n.sectors.length c1)).setFar (p := ⟨Y4.heap.size, 2, none⟩) (fun e => by have := fb0.out _ e; simp only at this; omega) (.slice none 0 0)).setFar (p := ⟨Y4.heap.size, 3, none⟩) (fun e => by have := fb0.out _ e; simp only at this; omega) (.slice none 0 0))
            have O1F := Lib.hid (((((of1_5.out).setFar (p := ⟨Y4.heap.size, 0, none⟩) (fun e => by have := fb1.out _ e; simp only at this; omega) (.slice a0 n.sites.length c0)).setFar (p := ⟨Y4.heap.size, 1, none⟩) (fun e => by have := fb1.out _ e; simp only at this; omega) (.slice a1 n.sectors.length c1)).setFar (p := ⟨Y4.heap.size, 2, none⟩) (fun e => by have := fb1.out _ e; simp only at this; omega) (.slice none 0 0)).setFar (p := ⟨Y4.heap.size, 3, none⟩) (fun e => by have := fb1.out _ e; simp only at this; omega) (.slice none 0 0))
            have KRF := Lib.hid (blkO (blkO (blkO (blkO (KR5.out) (p := ⟨Y4.heap.size, 0, none⟩) (by show w.heap.size ≠ Y4.heap.size; omega) (.slice a0 n.sites.length c0)) (p := ⟨Y4.heap.size, 1, none⟩) (by show w.heap.size ≠ Y4.heap.size; omega) (.slice a1 n.sectors.length c1)) (p := ⟨Y4.heap.size, 2, none⟩) (by show w.heap.size ≠ Y4.heap.size; omega) (.slice none 0 0)) (p := ⟨Y4.heap.size, 3, none⟩) (by show w.heap.size ≠ Y4.heap.size; omega) (.slice none 0 0))
            go_wp2_with fail
            go_meet
            exact ⟨_, a0, c0, a1, c1, f0, f1, rfl, by omega, by simp only [size_setCell]; omega, kf.out, KRF.out, O0F.out, O1F.out, fun y hy => ⟨⟨by have := fb0.out y hy; omega, by have := fb0.out y hy; simp only [size_setCell]; omega⟩, by have := fb0.out y hy; omega, fun hy2 => by have := fb0.out y hy; have := fb1.out y hy2; omega⟩, fun y hy => ⟨⟨by have := fb1.out y hy; omega, by have := fb1.out y hy; simp only [size_setCell]; omega⟩, by have := fb1.out y hy; omega⟩, BF.out⟩
          · refine stepT_mk rfl (fun K hK => ?_)
            go_simp
            have b6 : Below Y3.heap.size Y3 (Y3.alloc (.cells #[.slice none 0 0, .slice none 0 0, .slice none 0 0, .slice none 0 0] 35)) := (Below.refl _ _).alloc (Nat.le_refl _) _
            have e6 : Hid ((Y3.alloc (.cells #[.slice none 0 0, .slice none 0 0, .slice none 0 0, .slice none 0 0] 35)).heap[Y3.heap.size]? = some (.cells #[.slice none 0 0, .slice none 0 0, .slice none 0 0, .slice none 0 0] 35 (0, 0))) := blkN Y3 _ _
            have zz6 : Y3.heap.size + 1 ≤ (Y3.alloc (.cells #[.slice none 0 0, .slice none 0 0, .slice none 0 0, .slice none 0 0] 35)).heap.size := by simp
            refine hK.out _ _ (⟨(bat (BB3.out.trans (b6.mono (by omega))) bp _ hbp).trans P0.out, (bat (BB3.out.trans (b6.mono (by omega))) bp _ hbp).trans P1.out⟩) ?_
            clear hK K
            (try simp only [Act.put, List.setIfInBounds_toArray, List.set_cons_zero, List.set_cons_succ])
            generalize (Y3.alloc (.cells #[.slice none 0 0, .slice none 0 0, .slice none 0 0, .slice none 0 0] 35)) = Y6 at *
            have BB6 := Lib.hid (BB3.out.trans (b6.mono (by omega)))
            have KR6 := Lib.hid (blkB KR3.out b6 (by omega))
            have er6_6 := Lib.hid (ownsRow_frame (w' := Y6) e3.out (fun b hb => by have e_ : Y2.heap.size = b := (by simpa [Value.ownBlock] using hb); rw [← e_]; exact b6.block _ (by omega)))
            have of0_6 := Lib.hid (of0_3.out.frame (fun b hb => b6.block b (by have := fb0.out b hb; omega)))
            have bs6 : Y3.heap.size ≤ Y6.heap.size := b6.size
            clear b6
            refine wpTree_one ?_
            refine stepT_mk rfl (fun K hK => ?_)
            refine wp_append_any _ (.tmp 12) (.tmp 16) _ rfl Y2.heap.size 49 iT _ 9 112 Tryz.underlying31 hT0 hT1 hT2 hT3 rfl (by omega) (.slice (some ⟨Y2.heap.size, 0, none⟩) 0 0) 0 [] rfl er6_6.out w.heap.size A1 n.sectors.length C1 x1 rfl (DS1.out.below BB6.out) ON1.out (by simp only [maxLen]; omega) (by omega) (by omega) ?_
            intro v7_ Y7 hown hg hat
            simp only [Nat.zero_add, List.nil_append] at hown
            have bs7 : Y6.heap.size ≤ Y7.heap.size := hg.size
            have b7 : Below Y2.heap.size Y6 Y7 := (Below.refl _ _).grown hg (by omega) (fun k hk => by simp [Value.ownBlock] at hk; omega)
            have kp7 : Hid (∀ b, b < Y6.heap.size → b ≠ Y2.heap.size → Y7.heap[b]? = Y6.heap[b]?) := fun b hb hne => hg.block b hb (fun e => hne (by simpa [Value.ownBlock] using e))
            obtain ⟨f1, of_, if_, df_⟩ := (grow_Sector hown XS1.out).toOwnB (lo := Y2.heap.size) (by decide) In.nil (Nat.le_refl _)
            obtain ⟨a1, c1, ev, -⟩ := ownsRow_slice hown
            subst ev
            have fb1 : Hid (∀ y ∈ f1, y = Y2.heap.size ∨ (Y6.heap.size ≤ y ∧ y < Y7.heap.size)) := fun y hy => by
              rcases df_ y hy with h | h
              · rcases hat with e | e
                · rw [e] at h; left; simpa [Value.ownBlock] using h.symm
                · rw [e] at h; injection h with h; exact Or.inr ⟨by omega, (if_ y hy).2⟩
              · simp at h
            have of1_7 := Lib.hid of_
            have ii1 := if_
            clear hown hg hat of_ if_ df_
            refine hK.out _ _ (⟨(bat (BB6.out.trans (b7.mono (by omega))) bp _ hbp).trans P0.out, (bat (BB6.out.trans (b7.mono (by omega))) bp _ hbp).trans P1.out⟩) ?_
            clear hK K
            (try simp only [Act.put, List.setIfInBounds_toArray, List.set_cons_zero, List.set_cons_succ])
            have BB7 := Lib.hid (BB6.out.trans (b7.mono (by omega)))
            have KR7 := Lib.hid ((kp7.out w.heap.size (by omega) (by omega)).trans KR6.out)
            have kh7 := Lib.hid ((kp7.out Y3.heap.size (by omega) (by omega)).trans e6.out)
            have of0_7 := Lib.hid (of0_6.out.frame (fun b hb => kp7.out b (by have := fb0.out b hb; omega) (by have := fb0.out b hb; omega)))
            clear b7
            refine wpTree_read (v := ?_) rfl (fun _ _ _ h => h) ?_ ?_
            rotate_left
            · (intro W hSW; (try dsimp only at hSW); (go_simp <;> with_reducible rfl))
            (try simp only [Act.put, List.setIfInBounds_toArray, List.set_cons_zero, List.set_cons_succ])
            refine wpTree_nil ?_
            simp only [List.drop_succ_cons, List.drop_zero]
            obtain ⟨g0, g1, g2, g3⟩ := blk4 kh7.out
            have fz := blkF kh7.out
            have kf_ : ((((Y7.setCell ⟨Y3.heap.size, 0, none⟩ (.slice a0 n.sites.length c0)).setCell ⟨Y3.heap.size, 1, none⟩ (.slice a1 n.sectors.length c1)).setCell ⟨Y3.heap.size, 2, none⟩ (.slice none 0 0)).setCell ⟨Y3.heap.size, 3, none⟩ (.slice none 0 0)).heap[Y3.heap.size]? = some (.cells #[.slice a0 n.sites.length c0, .slice a1 n.sectors.length c1, .slice none 0 0, .slice none 0 0] 35 (0, 0)) := by
              have := blkS (blkS (blkS (blkS kh7.out 0 (.slice a0 n.sites.length c0)) 1 (.slice a1 n.sectors.length c1)) 2 (.slice none 0 0)) 3 (.slice none 0 0)
              simpa using this
            have kf := Lib.hid kf_
            clear kf_
            have BF := Lib.hid (((((BB7.out).setCell (p := ⟨Y3.heap.size, 0, none⟩) (by show w.heap.size ≤ Y3.heap.size; omega) (.slice a0 n.sites.length c0)).setCell (p := ⟨Y3.heap.size, 1, none⟩) (by show w.heap.size ≤ Y3.heap.size; omega) (.slice a1 n.sectors.length c1)).setCell (p := ⟨Y3.heap.size, 2, none⟩) (by show w.heap.size ≤ Y3.heap.size; omega) (.slice none 0 0)).setCell (p := ⟨Y3.heap.size, 3, none⟩) (by show w.heap.size ≤ Y3.heap.size; omega) (.slice none 0 0))
            have O0F := Lib.hid (((((of0_7.out).setFar (p := ⟨Y3.heap.size, 0, none⟩) (fun e => by have := fb0.out _ e; simp only at this; omega) (.slice a0 n.sites.length c0)).setFar (p := ⟨Y3.heap.size, 1, none⟩) (fun e => by have := fb0.out _ e; simp only at this; omega) (.slice a1 n.sectors.length c1)).setFar (p := ⟨Y3.heap.size, 2, none⟩) (fun e => by have := fb0.out _ e; simp only at this; omega) (.slice none 0 0)).setFar (p := ⟨Y3.heap.size, 3, none⟩) (fun e => by have := fb0.out _ e; simp only at this; omega) (.slice none 0 0))
            have O1F := Lib.hid (((((of1_7.out).setFar (p := ⟨Y3.heap.size, 0, none⟩) (fun e => by have := fb1.out _ e; simp only at this; omega) (.slice a0 n.sites.length c0)).setFar (p := ⟨Y3.heap.size, 1, none⟩) (fun e => by have := fb1.out _ e; simp only at this; omega) (.slice a1 n.sectors.length c1)).setFar (p := ⟨Y3.heap.size, 2, none⟩) (fun e => by have := fb1.out _ e; simp only at this; omega) (.slice none 0 0)).setFar (p := ⟨Y3.heap.size, 3, none⟩) (fun e => by have := fb1.out _ e; simp only at this; omega) (.slice none 0 0))
            have KRF := Lib.hid (blkO (blkO (blkO (blkO (KR7.out) (p := ⟨Y3.heap.size, 0, none⟩) (by show w.heap.size ≠ Y3.heap.size; omega) (.slice a0 n.sites.length c0)) (p := ⟨Y3.heap.size, 1, none⟩) (by show w.heap.size ≠ Y3.heap.size; omega) (.slice a1 n.sectors.length c1)) (p := ⟨Y3.heap.size, 2, none⟩) (by show w.heap.size ≠ Y3.heap.size; omega) (.slice none 0 0)) (p := ⟨Y3.heap.size, 3, none⟩) (by show w.heap.size ≠ Y3.heap.size; omega) (.slice none 0 0))
            go_wp2_with fail
            go_meet
            exact ⟨_, a0, c0, a1, c1, f0, f1, rfl, by omega, by simp only [size_setCell]; omega, kf.out, KRF.out, O0F.out, O1F.out, fun y hy => ⟨⟨by have := fb0.out y hy; omega, by have := fb0.out y hy; simp only [size_setCell]; omega⟩, by have := fb0.out y hy; omega, fun hy2 => by have := fb0.out y hy; have := fb1.out y hy2; omega⟩, fun y hy => ⟨⟨by have := fb1.out y hy; omega, by have := fb1.out y hy; simp only [size_setCell]; omega⟩, by have := fb1.out y hy; omega⟩, BF.out⟩
        · refine stepT_mk rfl (fun K hK => ?_)
          go_simp
          have b8 : Below Y2.heap.size Y2 (Y2.alloc (.cells #[.slice none 0 0, .slice none 0 0, .slice none 0 0, .slice none 0 0] 35)) := (Below.refl _ _).alloc (Nat.le_refl _) _
          have e8 : Hid ((Y2.alloc (.cells #[.slice none 0 0, .slice none 0 0, .slice none 0 0, .slice none 0 0] 35)).heap[Y2.heap.size]? = some (.cells #[.slice none 0 0, .slice none 0 0, .slice none 0 0, .slice none 0 0] 35 (0, 0))) := blkN Y2 _ _
          have zz8 : Y2.heap.size + 1 ≤ (Y2.alloc (.cells #[.slice none 0 0, .slice none 0 0, .slice none 0 0, .slice none 0 0] 35)).heap.size := by simp
          refine hK.out _ _ (⟨(bat (BB2.out.trans (b8.mono (by omega))) bp _ hbp).trans P0.out, (bat (BB2.out.trans (b8.mono (by omega))) bp _ hbp).trans P1.out⟩) ?_
          clear hK K
          (try simp only [Act.put, List.setIfInBounds_toArray, List.set_cons_zero, List.set_cons_succ])
          generalize (Y2.alloc (.cells #[.slice none 0 0, .slice none 0 0, .slice none 0 0, .slice none 0 0] 35)) = Y8 at *
          have BB8 := Lib.hid (BB2.out.trans (b8.mono (by omega)))
          have KR8 := Lib.hid (blkB KR2.out b8 (by omega))
          have of0_8 := Lib.hid (of0_2.out.frame (fun b hb => b8.block b (by have := fb0.out b hb; omega)))
          have bs8 : Y2.heap.size ≤ Y8.heap.size := b8.size
          clear b8
          refine wpTree_one ?_
          refine stepT_mk rfl (fun K hK => ?_)
          go_simp
          have b9 : Below Y8.heap.size Y8 (Y8.alloc (.cells #[] 49)) := (Below.refl _ _).alloc (Nat.le_refl _) _
          have e9 : Hid ((Y8.alloc (.cells #[] 49)).ownsRow Y8.heap.size 49 9 (.slice (some ⟨Y8.heap.size, 0, none⟩) 0 0) 0 []) := own_emptyK Y8 49 9
          have zz9 : Y8.heap.size + 1 ≤ (Y8.alloc (.cells #[] 49)).heap.size := by simp
          refine hK.out _ _ (⟨(bat (BB8.out.trans (b9.mono (by omega))) bp _ hbp).trans P0.out, (bat (BB8.out.trans (b9.mono (by omega))) bp _ hbp).trans P1.out⟩) ?_
          clear hK K
          (try simp only [Act.put, List.setIfInBounds_toArray, List.set_cons_zero, List.set_cons_succ])
          generalize (Y8.alloc (.cells #[] 49)) = Y9 at *
          have BB9 := Lib.hid (BB8.out.trans (b9.mono (by omega)))
          have KR9 := Lib.hid (blkB KR8.out b9 (by omega))
          have kh9 := Lib.hid (blkB e8.out b9 (by omega))
          have of0_9 := Lib.hid (of0_8.out.frame (fun b hb => b9.block b (by have := fb0.out b hb; omega)))
          have bs9 : Y8.heap.size ≤ Y9.heap.size := b9.size
          clear b9
          refine wpTree_one ?_
          refine stepT_mk rfl (fun K hK => ?_)
          refine wp_append_any _ (.tmp 12) (.tmp 16) _ rfl Y8.heap.size 49 iT _ 9 112 Tryz.underlying31 hT0 hT1 hT2 hT3 rfl (by omega) (.slice (some ⟨Y8.heap.size, 0, none⟩) 0 0) 0 [] rfl e9.out w.heap.size A1 n.sectors.length C1 x1 rfl (DS1.out.below BB9.out) ON1.out (by simp only [maxLen]; omega) (by omega) (by omega) ?_
          intro v10_ Y10 hown hg hat
          simp only [Nat.zero_add, List.nil_append] at hown
          have bs10 : Y9.heap.size ≤ Y10.heap.size := hg.size
          have b10 : Below Y8.heap.size Y9 Y10 := (Below.refl _ _).grown hg (by omega) (fun k hk => by simp [Value.ownBlock] at hk; omega)
          have kp10 : Hid (∀ b, b < Y9.heap.size → b ≠ Y8.heap.size → Y10.heap[b]? = Y9.heap[b]?) := fun b hb hne => hg.block b hb (fun e => hne (by simpa [Value.ownBlock] using e))
          obtain ⟨f1, of_, if_, df_⟩ := (grow_Sector hown XS1.out).toOwnB (lo := Y8.heap.size) (by decide) In.nil (Nat.le_refl _)
          obtain ⟨a1, c1, ev, -⟩ := ownsRow_slice hown
          subst ev
          have fb1 : Hid (∀ y ∈ f1, y = Y8.heap.size ∨ (Y9.heap.size ≤ y ∧ y < Y10.heap.size)) := fun y hy => by
            rcases df_ y hy with h | h
            · rcases hat with e | e
              · rw [e] at h; left; simpa [Value.ownBlock] using h.symm
              · rw [e] at h; injection h with h; exact Or.inr ⟨by omega, (if_ y hy).2⟩
            · simp at h
          have of1_10 := Lib.hid of_
          have ii1 := if_
          clear hown hg hat of_ if_ df_
          refine hK.out _ _ (⟨(bat (BB9.out.trans (b10.mono (by omega))) bp _ hbp).trans P0.out, (bat (BB9.out.trans (b10.mono (by omega))) bp _ hbp).trans P1.out⟩) ?_
          clear hK K
          (try simp only [Act.put, List.setIfInBounds_toArray, List.set_cons_zero, List.set_cons_succ])
          have BB10 := Lib.hid (BB9.out.trans (b10.mono (by omega)))
          have KR10 := Lib.hid ((kp10.out w.heap.size (by omega) (by omega)).trans KR9.out)
          have kh10 := Lib.hid ((kp10.out Y2.heap.size (by omega) (by omega)).trans kh9.out)
          have of0_10 := Lib.hid (of0_9.out.frame (fun b hb => kp10.out b (by have := fb0.out b hb; omega) (by have := fb0.out b hb; omega)))
          clear b10
          refine wpTree_read (v := ?_) rfl (fun _ _ _ h => h) ?_ ?_
          rotate_left
          · (intro W hSW; (try dsimp only at hSW); (go_simp <;> with_reducible rfl))
          (try simp only [Act.put, List.setIfInBounds_toArray, List.set_cons_zero, List.set_cons_succ])
          refine wpTree_nil ?_
          simp only [List.drop_succ_cons, List.drop_zero]
          obtain ⟨g0, g1, g2, g3⟩ := blk4 kh10.out
          have fz := blkF kh10.out
          have kf_ : ((((Y10.setCell ⟨Y2.heap.size, 0, none⟩ (.slice a0 n.sites.length c0)).setCell ⟨Y2.heap.size, 1, none⟩ (.slice a1 n.sectors.length c1)).setCell ⟨Y2.heap.size, 2, none⟩ (.slice none 0 0)).setCell ⟨Y2.heap.size, 3, none⟩ (.slice none 0 0)).heap[Y2.heap.size]? = some (.cells #[.slice a0 n.sites.length c0, .slice a1 n.sectors.length c1, .slice none 0 0, .slice none 0 0] 35 (0, 0)) := by
            have := blkS (blkS (blkS (blkS kh10.out 0 (.slice a0 n.sites.length c0)) 1 (.slice a1 n.sectors.length c1)) 2 (.slice none 0 0)) 3 (.slice none 0 0)
            simpa using this
          have kf := Lib.hid kf_
          clear kf_
          have BF := Lib.hid (((((BB10.out).setCell (p := ⟨Y2.heap.size, 0, none⟩) (by show w.heap.size ≤ Y2.heap.size; omega) (.slice a0 n.sites.length c0)).setCell (p := ⟨Y2.heap.size, 1, none⟩) (by show w.heap.size ≤ Y2.heap.size; omega) (.slice a1 n.sectors.length c1)).setCell (p := ⟨Y2.heap.size, 2, none⟩) (by show w.heap.size ≤ Y2.heap.size; omega) (.slice none 0 0)).setCell (p := ⟨Y2.heap.size, 3, none⟩) (by show w.heap.size ≤ Y2.heap.size; omega) (.slice none 0 0))
          have O0F := Lib.hid (((((of0_10.out).setFar (p := ⟨Y2.heap.size, 0, none⟩) (fun e => by have := fb0.out _ e; simp only at this; omega) (.slice a0 n.sites.length c0)).setFar (p := ⟨Y2.heap.size, 1, none⟩) (fun e => by have := fb0.out _ e; simp only at this; omega) (.slice a1 n.sectors.length c1)).setFar (p := ⟨Y2.heap.size, 2, none⟩) (fun e => by have := fb0.out _ e; simp only at this; omega) (.slice none 0 0)).setFar (p := ⟨Y2.heap.size, 3, none⟩) (fun e => by have := fb0.out _ e; simp only at this; omega) (.slice none 0 0))
          have O1F := Lib.hid (((((of1_10.out).setFar (p := ⟨Y2.heap.size, 0, none⟩) (fun e => by have := fb1.out _ e; simp only at this; omega) (.slice a0 n.sites.length c0)).setFar (p := ⟨Y2.heap.size, 1, none⟩) (fun e => by have := fb1.out _ e; simp only at this; omega) (.slice a1 n.sectors.length c1)).setFar (p := ⟨Y2.heap.size, 2, none⟩) (fun e => by have := fb1.out _ e; simp only at this; omega) (.slice none 0 0)).setFar (p := ⟨Y2.heap.size, 3, none⟩) (fun e => by have := fb1.out _ e; simp only at this; omega) (.slice none 0 0))
          have KRF := Lib.hid (blkO (blkO (blkO (blkO (KR10.out) (p := ⟨Y2.heap.size, 0, none⟩) (by show w.heap.size ≠ Y2.heap.size; omega) (.slice a0 n.sites.length c0)) (p := ⟨Y2.heap.size, 1, none⟩) (by show w.heap.size ≠ Y2.heap.size; omega) (.slice a1 n.sectors.length c1)) (p := ⟨Y2.heap.size, 2, none⟩) (by show w.heap.size ≠ Y2.heap.size; omega) (.slice none 0 0)) (p := ⟨Y2.heap.size, 3, none⟩) (by show w.heap.size ≠ Y2.heap.size; omega) (.slice none 0 0))
          go_wp2_with fail
          go_meet
          exact ⟨_, a0, c0, a1, c1, f0, f1, rfl, by omega, by simp only [size_setCell]; omega, kf.out, KRF.out, O0F.out, O1F.out, fun y hy => ⟨⟨by have := fb0.out y hy; omega, by have := fb0.out y hy; simp only [size_setCell]; omega⟩, by have := fb0.out y hy; omega, fun hy2 => by have := fb0.out y hy; have := fb1.out y hy2; omega⟩, fun y hy => ⟨⟨by have := fb1.out y hy; omega, by have := fb1.out y hy; simp only [size_setCell]; omega⟩, by have := fb1.out y hy; omega⟩, BF.out⟩
      · refine stepT_mk rfl (fun K hK => ?_)
        go_simp
        have b11 : Below Y1.heap.size Y1 (Y1.alloc (.cells #[] 49)) := (Below.refl _ _).alloc (Nat.le_refl _) _
        have e11 : Hid ((Y1.alloc (.cells #[] 49)).ownsRow Y1.heap.size 49 9 (.slice (some ⟨Y1.heap.size, 0, none⟩) 0 0) 0 []) := own_emptyK Y1 49 9
        have zz11 : Y1.heap.size + 1 ≤ (Y1.alloc (.cells #[] 49)).heap.size := by simp
        refine hK.out _ _ (⟨(bat (BB1.out.trans (b11.mono (by omega))) bp _ hbp).trans P0.out, (bat (BB1.out.trans (b11.mono (by omega))) bp _ hbp).trans P1.out⟩) ?_
        clear hK K
        (try simp only [Act.put, List.setIfInBounds_toArray, List.set_cons_zero, List.set_cons_succ])
        generalize (Y1.alloc (.cells #[] 49)) = Y11 at *
        have BB11 := Lib.hid (BB1.out.trans (b11.mono (by omega)))
        have KR11 := Lib.hid (blkB KR1.out b11 (by omega))
        have er11_0 := Lib.hid (ownsRow_frame (w' := Y11) e1.out (fun b hb => by have e_ : Y.heap.size = b := (by simpa [Value.ownBlock] using hb); rw [← e_]; exact b11.block _ (by omega)))
        have bs11 : Y1.heap.size ≤ Y11.heap.size := b11.size
        clear b11
        refine wpTree_two ?_ ?_
        · refine stepT_mk rfl (fun K hK => ?_)
          refine wp_append_any _ (.tmp 6) (.tmp 10) _ rfl Y.heap.size 62 iS _ 4 48 Tryz.underlying30 hS0 hS1 hS2 hS3 rfl (by omega) (.slice (some ⟨Y.heap.size, 0, none⟩) 0 0) 0 [] rfl er11_0.out w.heap.size A0 n.sites.length C0 x0 rfl (DS0.out.below BB11.out) ON0.out (by simp only [maxLen]; omega) (by omega) (by omega) ?_
          intro v12_ Y12 hown hg hat
          simp only [Nat.zero_add, List.nil_append] at hown
          have bs12 : Y11.heap.size ≤ Y12.heap.size := hg.size
          have b12 : Below Y.heap.size Y11 Y12 := (Below.refl _ _).grown hg (by omega) (fun k hk => by simp [Value.ownBlock] at hk; omega)
          have kp12 : Hid (∀ b, b < Y11.heap.size → b ≠ Y.heap.size → Y12.heap[b]? = Y11.heap[b]?) := fun b hb hne => hg.block b hb (fun e => hne (by simpa [Value.ownBlock] using e))
          obtain ⟨f0, of_, if_, df_⟩ := (grow_Site hown XS0.out).toOwnB (lo := Y.heap.size) (by decide) In.nil (Nat.le_refl _)
          obtain ⟨a0, c0, ev, -⟩ := ownsRow_slice hown
          subst ev
          have fb0 : Hid (∀ y ∈ f0, y = Y.heap.size ∨ (Y11.heap.size ≤ y ∧ y < Y12.heap.size)) := fun y hy => by
            rcases df_ y hy with h | h
            · rcases hat with e | e
              · rw [e] at h; left; simpa [Value.ownBlock] using h.symm
              · rw [e] at h; injection h with h; exact Or.inr ⟨by omega, (if_ y hy).2⟩
            · simp at h
          have of0_12 := Lib.hid of_
          have ii0 := if_
          clear hown hg hat of_ if_ df_
          refine hK.out _ _ (⟨(bat (BB11.out.trans (b12.mono (by omega))) bp _ hbp).trans P0.out, (bat (BB11.out.trans (b12.mono (by omega))) bp _ hbp).trans P1.out⟩) ?_
          clear hK K
          (try simp only [Act.put, List.setIfInBounds_toArray, List.set_cons_zero, List.set_cons_succ])
          have BB12 := Lib.hid (BB11.out.trans (b12.mono (by omega)))
          have KR12 := Lib.hid ((kp12.out w.heap.size (by omega) (by omega)).trans KR11.out)
          have er12_6 := Lib.hid (ownsRow_frame (w' := Y12) e11.out (fun b hb => by have e_ : Y1.heap.size = b := (by simpa [Value.ownBlock] using hb); rw [← e_]; exact kp12.out _ (by omega) (by omega)))
          clear b12
          refine wpTree_two ?_ ?_
          · refine stepT_mk rfl (fun K hK => ?_)
            refine wp_append_any _ (.tmp 12) (.tmp 16) _ rfl Y1.heap.size 49 iT _ 9 112 Tryz.underlying31 hT0 hT1 hT2 hT3 rfl (by omega) (.slice (some ⟨Y1.heap.size, 0, none⟩) 0 0) 0 [] rfl er12_6.out w.heap.size A1 n.sectors.length C1 x1 rfl (DS1.out.below BB12.out) ON1.out (by simp only [maxLen]; omega) (by omega) (by omega) ?_
            intro v13_ Y13 hown hg hat
            simp only [Nat.zero_add, List.nil_append] at hown
            have bs13 : Y12.heap.size ≤ Y13.heap.size := hg.size
            have b13 : Below Y1.heap.size Y12 Y13 := (Below.refl _ _).grown hg (by omega) (fun k hk => by simp [Value.ownBlock] at hk; omega)
            have kp13 : Hid (∀ b, b < Y12.heap.size → b ≠ Y1.heap.size → Y13.heap[b]? = Y12.heap[b]?) := fun b hb hne => hg.block b hb (fun e => hne (by simpa [Value.ownBlock] using e))
            obtain ⟨f1, of_, if_, df_⟩ := (grow_Sector hown XS1.out).toOwnB (lo := Y1.heap.size) (by decide) In.nil (Nat.le_refl _)
            obtain ⟨a1, c1, ev, -⟩ := ownsRow_slice hown
            subst ev
            have fb1 : Hid (∀ y ∈ f1, y = Y1.heap.size ∨ (Y12.heap.size ≤ y ∧ y < Y13.heap.size)) := fun y hy => by
              rcases df_ y hy with h | h
              · rcases hat with e | e
                · rw [e] at h; left; simpa [Value.ownBlock] using h.symm
                · rw [e] at h; injection h with h; exact Or.inr ⟨by omega, (if_ y hy).2⟩
              · simp at h
            have of1_13 := Lib.hid of_
            have ii1 := if_
            clear hown hg hat of_ if_ df_
            refine hK.out _ _ (⟨(bat (BB12.out.trans (b13.mono (by omega))) bp _ hbp).trans P0.out, (bat (BB12.out.trans (b13.mono (by omega))) bp _ hbp).trans P1.out⟩) ?_
            clear hK K
            (try simp only [Act.put, List.setIfInBounds_toArray, List.set_cons_zero, List.set_cons_succ])
            have BB13 := Lib.hid (BB12.out.trans (b13.mono (by omega)))
            have KR13 := Lib.hid ((kp13.out w.heap.size (by omega) (by omega)).trans KR12.out)
            have of0_13 := Lib.hid (of0_12.out.frame (fun b hb => kp13.out b (by have := fb0.out b hb; omega) (by have := fb0.out b hb; omega)))
            clear b13
            refine wpTree_read (v := ?_) rfl (fun _ _ _ h => h) ?_ ?_
            rotate_left
            · (intro W hSW; (try dsimp only at hSW); (go_simp <;> with_reducible rfl))
            (try simp only [Act.put, List.setIfInBounds_toArray, List.set_cons_zero, List.set_cons_succ])
            refine wpTree_one ?_
            refine stepT_mk rfl (fun K hK => ?_)
            go_simp
            have b14 : Below Y13.heap.size Y13 (Y13.alloc (.cells #[.slice none 0 0, .slice none 0 0, .slice none 0 0, .slice none 0 0] 35)) := (Below.refl _ _).alloc (Nat.le_refl _) _
            have e14 : Hid ((Y13.alloc (.cells #[.slice none 0 0, .slice none 0 0, .slice none 0 0, .slice none 0 0] 35)).heap[Y13.heap.size]? = some (.cells #[.slice none 0 0, .slice none 0 0, .slice none 0 0, .slice none 0 0] 35 (0, 0))) := blkN Y13 _ _
            have zz14 : Y13.heap.size + 1 ≤ (Y13.alloc (.cells #[.slice none 0 0, .slice none 0 0, .slice none 0 0, .slice none 0 0] 35)).heap.size := by simp
            refine hK.out _ _ (⟨(bat (BB13.out.trans (b14.mono (by omega))) bp _ hbp).trans P0.out, (bat (BB13.out.trans (b14.mono (by omega))) bp _ hbp).trans P1.out⟩) ?_
            clear hK K
            (try simp only [Act.put, List.setIfInBounds_toArray, List.set_cons_zero, List.set_cons_succ])
            generalize (Y13.alloc (.cells #[.slice none 0 0, .slice none 0 0, .slice none 0 0, .slice none 0 0] 35)) = Y14 at *
            have BB14 := Lib.hid (BB13.out.trans (b14.mono (by omega)))
            have KR14 := Lib.hid (blkB KR13.out b14 (by omega))
            have of0_14 := Lib.hid (of0_13.out.frame (fun b hb => b14.block b (by have := fb0.out b hb; omega)))
            have of1_14 := Lib.hid (of1_13.out.frame (fun b hb => b14.block b (by have := fb1.out b hb; omega)))
            have bs14 : Y13.heap.size ≤ Y14.heap.size := b14.size
            clear b14
            refine wpTree_nil ?_
            simp only [List.drop_succ_cons, List.drop_zero]
            obtain ⟨g0, g1, g2, g3⟩ := blk4 e14.out
            have fz := blkF e14.out
            have kf_ : ((((Y14.setCell ⟨Y13.heap.size, 0, none⟩ (.slice a0 n.sites.length c0)).setCell ⟨Y13.heap.size, 1, none⟩ (.slice a1 n.sectors.length c1)).setCell ⟨Y13.heap.size, 2, none⟩ (.slice none 0 0)).setCell ⟨Y13.heap.size, 3, none⟩ (.slice none 0 0)).heap[Y13.heap.size]? = some (.cells #[.slice a0 n.sites.length c0, .slice a1 n.sectors.length c1, .slice none 0 0, .slice none 0 0] 35 (0, 0)) := by
              have := blkS (blkS (blkS (blkS e14.out 0 (.slice a0 n.sites.length c0)) 1 (.slice a1 n.sectors.length c1)) 2 (.slice none 0 0)) 3 (.slice none 0 0)
              simpa using this
            have kf := Lib.hid kf_
            clear kf_
            have BF := Lib.hid (((((BB14.out).setCell (p := ⟨Y13.heap.size, 0, none⟩) (by show w.heap.size ≤ Y13.heap.size; omega) (.slice a0 n.sites.length c0)).setCell (p := ⟨Y13.heap.size, 1, none⟩) (by show w.heap.size ≤ Y13.heap.size; omega) (.slice a1 n.sectors.length c1)).setCell (p := ⟨Y13.heap.size, 2, none⟩) (by show w.heap.size ≤ Y13.heap.size; omega) (.slice none 0 0)).setCell (p := ⟨Y13.heap.size, 3, none⟩) (by show w.heap.size ≤ Y13.heap.size; omega) (.slice none 0 0))
            have O0F := Lib.hid (((((of0_14.out).setFar (p := ⟨Y13.heap.size, 0, none⟩) (fun e => by have := fb0.out _ e; simp only at this; omega) (.slice a0 n.sites.length c0)).setFar (p := ⟨Y13.heap.size, 1, none⟩) (fun e => by have := fb0.out _ e; simp only at this; omega) (.slice a1 n.sectors.length c1)).setFar (p := ⟨Y13.heap.size, 2, none⟩) (fun e => by have := fb0.out _ e; simp only at this; omega) (.slice none 0 0)).setFar (p := ⟨Y13.heap.size, 3, none⟩) (fun e => by have := fb0.out _ e; simp only at this; omega) (.slice none 0 0))
            have O1F := Lib.hid (((((of1_14.out).setFar (p := ⟨Y13.heap.size, 0, none⟩) (fun e => by have := fb1.out _ e; simp only at this; omega) (.slice a0 n.sites.length c0)).setFar (p := ⟨Y13.heap.size, 1, none⟩) (fun e => by have := fb1.out _ e; simp only at this; omega) (.slice a1 n.sectors.length c1)).setFar (p := ⟨Y13.heap.size, 2, none⟩) (fun e => by have := fb1.out _ e; simp only at this; omega) (.slice none 0 0)).setFar (p := ⟨Y13.heap.size, 3, none⟩) (fun e => by have := fb1.out _ e; simp only at this; omega) (.slice none 0 0))
            have KRF := Lib.hid (blkO (blkO (blkO (blkO (KR14.out) (p := ⟨Y13.heap.size, 0, none⟩) (by show w.heap.size ≠ Y13.heap.size; omega) (.slice a0 n.sites.length c0)) (p := ⟨Y13.heap.size, 1, none⟩) (by show w.heap.size ≠ Y13.heap.size; omega) (.slice a1 n.sectors.length c1)) (p := ⟨Y13.heap.size, 2, none⟩) (by show w.heap.size ≠ Y13.heap.size; omega) (.slice none 0 0)) (p := ⟨Y13.heap.size, 3, none⟩) (by show w.heap.size ≠ Y13.heap.size; omega) (.slice none 0 0))
            go_wp2_with fail
            go_meet
            exact ⟨_, a0, c0, a1, c1, f0, f1, rfl, by omega, by simp only [size_setCell]; omega, kf.out, KRF.out, O0F.out, O1F.out, fun y hy => ⟨⟨by have := fb0.out y hy; omega, by have := fb0.out y hy; simp only [size_setCell]; omega⟩, by have := fb0.out y hy; omega, fun hy2 => by have := fb0.out y hy; have := fb1.out y hy2; omega⟩, fun y hy => ⟨⟨by have := fb1.out y hy; omega, by have := fb1.out y hy; simp only [size_setCell]; omega⟩, by have := fb1.out y hy; omega⟩, BF.out⟩
          · refine stepT_mk rfl (fun K hK => ?_)
            go_simp
            have b15 : Below Y12.heap.size Y12 (Y12.alloc (.cells #[.slice none 0 0, .slice none 0 0, .slice none 0 0, .slice none 0 0] 35)) := (Below.refl _ _).alloc (Nat.le_refl _) _
            have e15 : Hid ((Y12.alloc (.cells #[.slice none 0 0, .slice none 0 0, .slice none 0 0, .slice none 0 0] 35)).heap[Y12.heap.size]? = some (.cells #[.slice none 0 0, .slice none 0 0, .slice none 0 0, .slice none 0 0] 35 (0, 0))) := blkN Y12 _ _
            have zz15 : Y12.heap.size + 1 ≤ (Y12.alloc (.cells #[.slice none 0 0, .slice none 0 0, .slice none 0 0, .slice none 0 0] 35)).heap.size := by simp
            refine hK.out _ _ (⟨(bat (BB12.out.trans (b15.mono (by omega))) bp _ hbp).trans P0.out, (bat (BB12.out.trans (b15.mono (by omega))) bp _ hbp).trans P1.out⟩) ?_
            clear hK K
            (try simp only [Act.put, List.setIfInBounds_toArray, List.set_cons_zero, List.set_cons_succ])
            generalize (Y12.alloc (.cells #[.slice none 0 0, .slice none 0 0, .slice none 0 0, .slice none 0 0] 35)) = Y15 at *
            have BB15 := Lib.hid (BB12.out.trans (b15.mono (by omega)))
            have KR15 := Lib.hid (blkB KR12.out b15 (by omega))
            have er15_6 := Lib.hid (ownsRow_frame (w' := Y15) er12_6.out (fun b hb => by have e_ : Y1.heap.size = b := (by simpa [Value.ownBlock] using hb); rw [← e_]; exact b15.block _ (by omega)))
            have of0_15 := Lib.hid (of0_12.out.frame (fun b hb => b15.block b (by have := fb0.out b hb; omega)))
            have bs15 : Y12.heap.size ≤ Y15.heap.size := b15.size
            clear b15
            refine wpTree_one ?_
            refine stepT_mk rfl (fun K hK => ?_)
            refine wp_append_any _ (.tmp 12) (.tmp 16) _ rfl Y1.heap.size 49 iT _ 9 112 Tryz.underlying31 hT0 hT1 hT2 hT3 rfl (by omega) (.slice (some ⟨Y1.heap.size, 0, none⟩) 0 0) 0 [] rfl er15_6.out w.heap.size A1 n.sectors.length C1 x1 rfl (DS1.out.below BB15.out) ON1.out (by simp only [maxLen]; omega) (by omega) (by omega) ?_
            intro v16_ Y16 hown hg hat
            simp only [Nat.zero_add, List.nil_append] at hown
            have bs16 : Y15.heap.size ≤ Y16.heap.size := hg.size
            have b16 : Below Y1.heap.size Y15 Y16 := (Below.refl _ _).grown hg (by omega) (fun k hk => by simp [Value.ownBlock] at hk; omega)
            have kp16 : Hid (∀ b, b < Y15.heap.size → b ≠ Y1.heap.size → Y16.heap[b]? = Y15.heap[b]?) := fun b hb hne => hg.block b hb (fun e => hne (by simpa [Value.ownBlock] using e))
            obtain ⟨f1, of_, if_, df_⟩ := (grow_Sector hown XS1.out).toOwnB (lo := Y1.heap.size) (by decide) In.nil (Nat.le_refl _)
            obtain ⟨a1, c1, ev, -⟩ := ownsRow_slice hown
            subst ev
            have fb1 : Hid (∀ y ∈ f1, y = Y1.heap.size ∨ (Y15.heap.size ≤ y ∧ y < Y16.heap.size)) := fun y hy => by
              rcases df_ y hy with h | h
              · rcases hat with e | e
                · rw [e] at h; left; simpa [Value.ownBlock] using h.symm
                · rw [e] at h; injection h with h; exact Or.inr ⟨by omega, (if_ y hy).2⟩
              · simp at h
            have of1_16 := Lib.hid of_
            have ii1 := if_
            clear hown hg hat of_ if_ df_
            refine hK.out _ _ (⟨(bat (BB15.out.trans (b16.mono (by omega))) bp _ hbp).trans P0.out, (bat (BB15.out.trans (b16.mono (by omega))) bp _ hbp).trans P1.out⟩) ?_
            clear hK K
            (try simp only [Act.put, List.setIfInBounds_toArray, List.set_cons_zero, List.set_cons_succ])
            have BB16 := Lib.hid (BB15.out.trans (b16.mono (by omega)))
            have KR16 := Lib.hid ((kp16.out w.heap.size (by omega) (by omega)).trans KR15.out)
            have kh16 := Lib.hid ((kp16.out Y12.heap.size (by omega) (by omega)).trans e15.out)
            have of0_16 := Lib.hid (of0_15.out.frame (fun b hb => kp16.out b (by have := fb0.out b hb; omega) (by have := fb0.out b hb; omega)))
            clear b16
            refine wpTree_read (v := ?_) rfl (fun _ _ _ h => h) ?_ ?_
            rotate_left
            · (intro W hSW; (try dsimp only at hSW); (go_simp <;> with_reducible rfl))
            (try simp only [Act.put, List.setIfInBounds_toArray, List.set_cons_zero, List.set_cons_succ])
            refine wpTree_nil ?_
            simp only [List.drop_succ_cons, List.drop_zero]
            obtain ⟨g0, g1, g2, g3⟩ := blk4 kh16.out
            have fz := blkF kh16.out
            have kf_ : ((((Y16.setCell ⟨Y12.heap.size, 0, none⟩ (.slice a0 n.sites.length c0)).setCell ⟨Y12.heap.size, 1, none⟩ (.slice a1 n.sectors.length c1)).setCell ⟨Y12.heap.size, 2, none⟩ (.slice none 0 0)).setCell ⟨Y12.heap.size, 3, none⟩ (.slice none 0 0)).heap[Y12.heap.size]? = some (.cells #[.slice a0 n.sites.length c0, .slice a1 n.sectors.length c1, .slice none 0 0, .slice none 0 0] 35 (0, 0)) := by
              have := blkS (blkS (blkS (blkS kh16.out 0 (.slice a0 n.sites.length c0)) 1 (.slice a1 n.sectors.length c1)) 2 (.slice none 0 0)) 3 (.slice none 0 0)
              simpa using this
            have kf := Lib.hid kf_
            clear kf_
            have BF := Lib.hid (((((BB16.out).setCell (p := ⟨Y12.heap.size, 0, none⟩) (by show w.heap.size ≤ Y12.heap.size; omega) (.slice a0 n.sites.length c0)).setCell (p := ⟨Y12.heap.size, 1, none⟩) (by show w.heap.size ≤ Y12.heap.size; omega) (.slice a1 n.sectors.length c1)).setCell (p := ⟨Y12.heap.size, 2, none⟩) (by show w.heap.size ≤ Y12.heap.size; omega) (.slice none 0 0)).setCell (p := ⟨Y12.heap.size, 3, none⟩) (by show w.heap.size ≤ Y12.heap.size; omega) (.slice none 0 0))
            have O0F := Lib.hid (((((of0_16.out).setFar (p := ⟨Y12.heap.size, 0, none⟩) (fun e => by have := fb0.out _ e; simp only at this; omega) (.slice a0 n.sites.length c0)).setFar (p := ⟨Y12.heap.size, 1, none⟩) (fun e => by have := fb0.out _ e; simp only at this; omega) (.slice a1 n.sectors.length c1)).setFar (p := ⟨Y12.heap.size, 2, none⟩) (fun e => by have := fb0.out _ e; simp only at this; omega) (.slice none 0 0)).setFar (p := ⟨Y12.heap.size, 3, none⟩) (fun e => by have := fb0.out _ e; simp only at this; omega) (.slice none 0 0))
            have O1F := Lib.hid (((((of1_16.out).setFar (p := ⟨Y12.heap.size, 0, none⟩) (fun e => by have := fb1.out _ e; simp only at this; omega) (.slice a0 n.sites.length c0)).setFar (p := ⟨Y12.heap.size, 1, none⟩) (fun e => by have := fb1.out _ e; simp only at this; omega) (.slice a1 n.sectors.length c1)).setFar (p := ⟨Y12.heap.size, 2, none⟩) (fun e => by have := fb1.out _ e; simp only at this; omega) (.slice none 0 0)).setFar (p := ⟨Y12.heap.size, 3, none⟩) (fun e => by have := fb1.out _ e; simp only at this; omega) (.slice none 0 0))
            have KRF := Lib.hid (blkO (blkO (blkO (blkO (KR16.out) (p := ⟨Y12.heap.size, 0, none⟩) (by show w.heap.size ≠ Y12.heap.size; omega) (.slice a0 n.sites.length c0)) (p := ⟨Y12.heap.size, 1, none⟩) (by show w.heap.size ≠ Y12.heap.size; omega) (.slice a1 n.sectors.length c1)) (p := ⟨Y12.heap.size, 2, none⟩) (by show w.heap.size ≠ Y12.heap.size; omega) (.slice none 0 0)) (p := ⟨Y12.heap.size, 3, none⟩) (by show w.heap.size ≠ Y12.heap.size; omega) (.slice none 0 0))
            go_wp2_with fail
            go_meet
            exact ⟨_, a0, c0, a1, c1, f0, f1, rfl, by omega, by simp only [size_setCell]; omega, kf.out, KRF.out, O0F.out, O1F.out, fun y hy => ⟨⟨by have := fb0.out y hy; omega, by have := fb0.out y hy; simp only [size_setCell]; omega⟩, by have := fb0.out y hy; omega, fun hy2 => by have := fb0.out y hy; have := fb1.out y hy2; omega⟩, fun y hy => ⟨⟨by have := fb1.out y hy; omega, by have := fb1.out y hy; simp only [size_setCell]; omega⟩, by have := fb1.out y hy; omega⟩, BF.out⟩
        · refine stepT_mk rfl (fun K hK => ?_)
          go_simp
          have b17 : Below Y11.heap.size Y11 (Y11.alloc (.cells #[.slice none 0 0, .slice none 0 0, .slice none 0 0, .slice none 0 0] 35)) := (Below.refl _ _).alloc (Nat.le_refl _) _
          have e17 : Hid ((Y11.alloc (.cells #[.slice none 0 0, .slice none 0 0, .slice none 0 0, .slice none 0 0] 35)).heap[Y11.heap.size]? = some (.cells #[.slice none 0 0, .slice none 0 0, .slice none 0 0, .slice none 0 0] 35 (0, 0))) := blkN Y11 _ _
          have zz17 : Y11.heap.size + 1 ≤ (Y11.alloc (.cells #[.slice none 0 0, .slice none 0 0, .slice none 0 0, .slice none 0 0] 35)).heap.size := by simp
          refine hK.out _ _ (⟨(bat (BB11.out.trans (b17.mono (by omega))) bp _ hbp).trans P0.out, (bat (BB11.out.trans (b17.mono (by omega))) bp _ hbp).trans P1.out⟩) ?_
          clear hK K
          (try simp only [Act.put, List.setIfInBounds_toArray, List.set_cons_zero, List.set_cons_succ])
          generalize (Y11.alloc (.cells #[.slice none 0 0, .slice none 0 0, .slice none 0 0, .slice none 0 0] 35)) = Y17 at *
          have BB17 := Lib.hid (BB11.out.trans (b17.mono (by omega)))
          have KR17 := Lib.hid (blkB KR11.out b17 (by omega))
          have er17_0 := Lib.hid (ownsRow_frame (w' := Y17) er11_0.out (fun b hb => by have e_ : Y.heap.size = b := (by simpa [Value.ownBlock] using hb); rw [← e_]; exact b17.block _ (by omega)))
          have er17_6 := Lib.hid (ownsRow_frame (w' := Y17) e11.out (fun b hb => by have e_ : Y1.heap.size = b := (by simpa [Value.ownBlock] using hb); rw [← e_]; exact b17.block _ (by omega)))
          have bs17 : Y11.heap.size ≤ Y17.heap.size := b17.size
          clear b17
          refine wpTree_one ?_
          refine stepT_mk rfl (fun K hK => ?_)
          refine wp_append_any _ (.tmp 6) (.tmp 10) _ rfl Y.heap.size 62 iS _ 4 48 Tryz.underlying30 hS0 hS1 hS2 hS3 rfl (by omega) (.slice (some ⟨Y.heap.size, 0, none⟩) 0 0) 0 [] rfl er17_0.out w.heap.size A0 n.sites.length C0 x0 rfl (DS0.out.below BB17.out) ON0.out (by simp only [maxLen]; omega) (by omega) (by omega) ?_
          intro v18_ Y18 hown hg hat
          simp only [Nat.zero_add, List.nil_append] at hown
          have bs18 : Y17.heap.size ≤ Y18.heap.size := hg.size
          have b18 : Below Y.heap.size Y17 Y18 := (Below.refl _ _).grown hg (by omega) (fun k hk => by simp [Value.ownBlock] at hk; omega)
          have kp18 : Hid (∀ b, b < Y17.heap.size → b ≠ Y.heap.size → Y18.heap[b]? = Y17.heap[b]?) := fun b hb hne => hg.block b hb (fun e => hne (by simpa [Value.ownBlock] using e))
          obtain ⟨f0, of_, if_, df_⟩ := (grow_Site hown XS0.out).toOwnB (lo := Y.heap.size) (by decide) In.nil (Nat.le_refl _)
          obtain ⟨a0, c0, ev, -⟩ := ownsRow_slice hown
          subst ev
          have fb0 : Hid (∀ y ∈ f0, y = Y.heap.size ∨ (Y17.heap.size ≤ y ∧ y < Y18.heap.size)) := fun y hy => by
            rcases df_ y hy with h | h
            · rcases hat with e | e
              · rw [e] at h; left; simpa [Value.ownBlock] using h.symm
              · rw [e] at h; injection h with h; exact Or.inr ⟨by omega, (if_ y hy).2⟩
            · simp at h
          have of0_18 := Lib.hid of_
          have ii0 := if_
          clear hown hg hat of_ if_ df_
          refine hK.out _ _ (⟨(bat (BB17.out.trans (b18.mono (by omega))) bp _ hbp).trans P0.out, (bat (BB17.out.trans (b18.mono (by omega))) bp _ hbp).trans P1.out⟩) ?_
          clear hK K
          (try simp only [Act.put, List.setIfInBounds_toArray, List.set_cons_zero, List.set_cons_succ])
          have BB18 := Lib.hid (BB17.out.trans (b18.mono (by omega)))
          have KR18 := Lib.hid ((kp18.out w.heap.size (by omega) (by omega)).trans KR17.out)
          have kh18 := Lib.hid ((kp18.out Y11.heap.size (by omega) (by omega)).trans e17.out)
          have er18_6 := Lib.hid (ownsRow_frame (w' := Y18) er17_6.out (fun b hb => by have e_ : Y1.heap.size = b := (by simpa [Value.ownBlock] using hb); rw [← e_]; exact kp18.out _ (by omega) (by omega)))
          clear b18
          refine wpTree_one ?_
          refine stepT_mk rfl (fun K hK => ?_)
          refine wp_append_any _ (.tmp 12) (.tmp 16) _ rfl Y1.heap.size 49 iT _ 9 112 Tryz.underlying31 hT0 hT1 hT2 hT3 rfl (by omega) (.slice (some ⟨Y1.heap.size, 0, none⟩) 0 0) 0 [] rfl er18_6.out w.heap.size A1 n.sectors.length C1 x1 rfl (DS1.out.below BB18.out) ON1.out (by simp only [maxLen]; omega) (by omega) (by omega) ?_
          intro v19_ Y19 hown hg hat
          simp only [Nat.zero_add, List.nil_append] at hown
          have bs19 : Y18.heap.size ≤ Y19.heap.size := hg.size
          have b19 : Below Y1.heap.size Y18 Y19 := (Below.refl _ _).grown hg (by omega) (fun k hk => by simp [Value.ownBlock] at hk; omega)
          have kp19 : Hid (∀ b, b < Y18.heap.size → b ≠ Y1.heap.size → Y19.heap[b]? = Y18.heap[b]?) := fun b hb hne => hg.block b hb (fun e => hne (by simpa [Value.ownBlock] using e))
          obtain ⟨f1, of_, if_, df_⟩ := (grow_Sector hown XS1.out).toOwnB (lo := Y1.heap.size) (by decide) In.nil (Nat.le_refl _)
          obtain ⟨a1, c1, ev, -⟩ := ownsRow_slice hown
          subst ev
          have fb1 : Hid (∀ y ∈ f1, y = Y1.heap.size ∨ (Y18.heap.size ≤ y ∧ y < Y19.heap.size)) := fun y hy => by
            rcases df_ y hy with h | h
            · rcases hat with e | e
              · rw [e] at h; left; simpa [Value.ownBlock] using h.symm
              · rw [e] at h; injection h with h; exact Or.inr ⟨by omega, (if_ y hy).2⟩
            · simp at h
          have of1_19 := Lib.hid of_
          have ii1 := if_
          clear hown hg hat of_ if_ df_
          refine hK.out _ _ (⟨(bat (BB18.out.trans (b19.mono (by omega))) bp _ hbp).trans P0.out, (bat (BB18.out.trans (b19.mono (by omega))) bp _ hbp).trans P1.out⟩) ?_
          clear hK K
          (try simp only [Act.put, List.setIfInBounds_toArray, List.set_cons_zero, List.set_cons_succ])
          have BB19 := Lib.hid (BB18.out.trans (b19.mono (by omega)))
          have KR19 := Lib.hid ((kp19.out w.heap.size (by omega) (by omega)).trans KR18.out)
          have kh19 := Lib.hid ((kp19.out Y11.heap.size (by omega) (by omega)).trans kh18.out)
          have of0_19 := Lib.hid (of0_18.out.frame (fun b hb => kp19.out b (by have := fb0.out b hb; omega) (by have := fb0.out b hb; omega)))
          clear b19
          refine wpTree_read (v := ?_) rfl (fun _ _ _ h => h) ?_ ?_
          rotate_left
          · (intro W hSW; (try dsimp only at hSW); (go_simp <;> with_reducible rfl))
          (try simp only [Act.put, List.setIfInBounds_toArray, List.set_cons_zero, List.set_cons_succ])
          refine wpTree_nil ?_
          simp only [List.drop_succ_cons, List.drop_zero]
          obtain ⟨g0, g1, g2, g3⟩ := blk4 kh19.out
          have fz := blkF kh19.out
          have kf_ : ((((Y19.setCell ⟨Y11.heap.size, 0, none⟩ (.slice a0 n.sites.length c0)).setCell ⟨Y11.heap.size, 1, none⟩ (.slice a1 n.sectors.length c1)).setCell ⟨Y11.heap.size, 2, none⟩ (.slice none 0 0)).setCell ⟨Y11.heap.size, 3, none⟩ (.slice none 0 0)).heap[Y11.heap.size]? = some (.cells #[.slice a0 n.sites.length c0, .slice a1 n.sectors.length c1, .slice none 0 0, .slice none 0 0] 35 (0, 0)) := by
            have := blkS (blkS (blkS (blkS kh19.out 0 (.slice a0 n.sites.length c0)) 1 (.slice a1 n.sectors.length c1)) 2 (.slice none 0 0)) 3 (.slice none 0 0)
            simpa using this
          have kf := Lib.hid kf_
          clear kf_
          have BF := Lib.hid (((((BB19.out).setCell (p := ⟨Y11.heap.size, 0, none⟩) (by show w.heap.size ≤ Y11.heap.size; omega) (.slice a0 n.sites.length c0)).setCell (p := ⟨Y11.heap.size, 1, none⟩) (by show w.heap.size ≤ Y11.heap.size; omega) (.slice a1 n.sectors.length c1)).setCell (p := ⟨Y11.heap.size, 2, none⟩) (by show w.heap.size ≤ Y11.heap.size; omega) (.slice none 0 0)).setCell (p := ⟨Y11.heap.size, 3, none⟩) (by show w.heap.size ≤ Y11.heap.size; omega) (.slice none 0 0))
          have O0F := Lib.hid (((((of0_19.out).setFar (p := ⟨Y11.heap.size, 0, none⟩) (fun e => by have := fb0.out _ e; simp only at this; omega) (.slice a0 n.sites.length c0)).setFar (p := ⟨Y11.heap.size, 1, none⟩) (fun e => by have := fb0.out _ e; simp only at this; omega) (.slice a1 n.sectors.length c1)).setFar (p := ⟨Y11.heap.size, 2, none⟩) (fun e => by have := fb0.out _ e; simp only at this; omega) (.slice none 0 0)).setFar (p := ⟨Y11.heap.size, 3, none⟩) (fun e => by have := fb0.out _ e; simp only at this; omega) (.slice none 0 0))
          have O1F := Lib.hid (((((of1_19.out).setFar (p := ⟨Y11.heap.size, 0, none⟩) (fun e => by have := fb1.out _ e; simp only at this; omega) (.slice a0 n.sites.length c0)).setFar (p := ⟨Y11.heap.size, 1, none⟩) (fun e => by have := fb1.out _ e; simp only at this; omega) (.slice a1 n.sectors.length c1)).setFar (p := ⟨Y11.heap.size, 2, none⟩) (fun e => by have := fb1.out _ e; simp only at this; omega) (.slice none 0 0)).setFar (p := ⟨Y11.heap.size, 3, none⟩) (fun e => by have := fb1.out _ e; simp only at this; omega) (.slice none 0 0))
          have KRF := Lib.hid (blkO (blkO (blkO (blkO (KR19.out) (p := ⟨Y11.heap.size, 0, none⟩) (by show w.heap.size ≠ Y11.heap.size; omega) (.slice a0 n.sites.length c0)) (p := ⟨Y11.heap.size, 1, none⟩) (by show w.heap.size ≠ Y11.heap.size; omega) (.slice a1 n.sectors.length c1)) (p := ⟨Y11.heap.size, 2, none⟩) (by show w.heap.size ≠ Y11.heap.size; omega) (.slice none 0 0)) (p := ⟨Y11.heap.size, 3, none⟩) (by show w.heap.size ≠ Y11.heap.size; omega) (.slice none 0 0))
          go_wp2_with fail
          go_meet
          exact ⟨_, a0, c0, a1, c1, f0, f1, rfl, by omega, by simp only [size_setCell]; omega, kf.out, KRF.out, O0F.out, O1F.out, fun y hy => ⟨⟨by have := fb0.out y hy; omega, by have := fb0.out y hy; simp only [size_setCell]; omega⟩, by have := fb0.out y hy; omega, fun hy2 => by have := fb0.out y hy; have := fb1.out y hy2; omega⟩, fun y hy => ⟨⟨by have := fb1.out y hy; omega, by have := fb1.out y hy; simp only [size_setCell]; omega⟩, by have := fb1.out y hy; omega⟩, BF.out⟩
      · refine stepT_mk rfl (fun K hK => ?_)
        go_simp
        have b20 : Below Y1.heap.size Y1 (Y1.alloc (.cells #[.slice none 0 0, .slice none 0 0, .slice none 0 0, .slice none 0 0] 35)) := (Below.refl _ _).alloc (Nat.le_refl _) _
        have e20 : Hid ((Y1.alloc (.cells #[.slice none 0 0, .slice none 0 0, .slice none 0 0, .slice none 0 0] 35)).heap[Y1.heap.size]? = some (.cells #[.slice none 0 0, .slice none 0 0, .slice none 0 0, .slice none 0 0] 35 (0, 0))) := blkN Y1 _ _
        have zz20 : Y1.heap.size + 1 ≤ (Y1.alloc (.cells #[.slice none 0 0, .slice none 0 0, .slice none 0 0, .slice none 0 0] 35)).heap.size := by simp
        refine hK.out _ _ (⟨(bat (BB1.out.trans (b20.mono (by omega))) bp _ hbp).trans P0.out, (bat (BB1.out.trans (b20.mono (by omega))) bp _ hbp).trans P1.out⟩) ?_
        clear hK K
        (try simp only [Act.put, List.setIfInBounds_toArray, List.set_cons_zero, List.set_cons_succ])
        generalize (Y1.alloc (.cells #[.slice none 0 0, .slice none 0 0, .slice none 0 0, .slice none 0 0] 35)) = Y20 at *
        have BB20 := Lib.hid (BB1.out.trans (b20.mono (by omega)))
        have KR20 := Lib.hid (blkB KR1.out b20 (by omega))
        have er20_0 := Lib.hid (ownsRow_frame (w' := Y20) e1.out (fun b hb => by have e_ : Y.heap.size = b := (by simpa [Value.ownBlock] using hb); rw [← e_]; exact b20.block _ (by omega)))
        have bs20 : Y1.heap.size ≤ Y20.heap.size := b20.size
        clear b20
        refine wpTree_two ?_ ?_
        · refine stepT_mk rfl (fun K hK => ?_)
          refine wp_append_any _ (.tmp 6) (.tmp 10) _ rfl Y.heap.size 62 iS _ 4 48 Tryz.underlying30 hS0 hS1 hS2 hS3 rfl (by omega) (.slice (some ⟨Y.heap.size, 0, none⟩) 0 0) 0 [] rfl er20_0.out w.heap.size A0 n.sites.length C0 x0 rfl (DS0.out.below BB20.out) ON0.out (by simp only [maxLen]; omega) (by omega) (by omega) ?_
          intro v21_ Y21 hown hg hat
          simp only [Nat.zero_add, List.nil_append] at hown
          have bs21 : Y20.heap.size ≤ Y21.heap.size := hg.size
          have b21 : Below Y.heap.size Y20 Y21 := (Below.refl _ _).grown hg (by omega) (fun k hk => by simp [Value.ownBlock] at hk; omega)
          have kp21 : Hid (∀ b, b < Y20.heap.size → b ≠ Y.heap.size → Y21.heap[b]? = Y20.heap[b]?) := fun b hb hne => hg.block b hb (fun e => hne (by simpa [Value.ownBlock] using e))
          obtain ⟨f0, of_, if_, df_⟩ := (grow_Site hown XS0.out).toOwnB (lo := Y.heap.size) (by decide) In.nil (Nat.le_refl _)
          obtain ⟨a0, c0, ev, -⟩ := ownsRow_slice hown
          subst ev
          have fb0 : Hid (∀ y ∈ f0, y = Y.heap.size ∨ (Y20.heap.size ≤ y ∧ y < Y21.heap.size)) := fun y hy => by
            rcases df_ y hy with h | h
            · rcases hat with e | e
              · rw [e] at h; left; simpa [Value.ownBlock] using h.symm
              · rw [e] at h; injection h with h; exact Or.inr ⟨by omega, (if_ y hy).2⟩
            · simp at h
          have of0_21 := Lib.hid of_
          have ii0 := if_
          clear hown hg hat of_ if_ df_
          refine hK.out _ _ (⟨(bat (BB20.out.trans (b21.mono (by omega))) bp _ hbp).trans P0.out, (bat (BB20.out.trans (b21.mono (by omega))) bp _ hbp).trans P1.out⟩) ?_
          clear hK K
          (try simp only [Act.put, List.setIfInBounds_toArray, List.set_cons_zero, List.set_cons_succ])
          have BB21 := Lib.hid (BB20.out.trans (b21.mono (by omega)))
          have KR21 := Lib.hid ((kp21.out w.heap.size (by omega) (by omega)).trans KR20.out)
          have kh21 := Lib.hid ((kp21.out Y1.heap.size (by omega) (by omega)).trans e20.out)
          clear b21
          refine wpTree_one ?_
          refine stepT_mk rfl (fun K hK => ?_)
          go_simp
          have b22 : Below Y21.heap.size Y21 (Y21.alloc (.cells #[] 49)) := (Below.refl _ _).alloc (Nat.le_refl _) _
          have e22 : Hid ((Y21.alloc (.cells #[] 49)).ownsRow Y21.heap.size 49 9 (.slice (some ⟨Y21.heap.size, 0, none⟩) 0 0) 0 []) := own_emptyK Y21 49 9
          have zz22 : Y21.heap.size + 1 ≤ (Y21.alloc (.cells #[] 49)).heap.size := by simp
          refine hK.out _ _ (⟨(bat (BB21.out.trans (b22.mono (by omega))) bp _ hbp).trans P0.out, (bat (BB21.out.trans (b22.mono (by omega))) bp _ hbp).trans P1.out⟩) ?_
          clear hK K
          (try simp only [Act.put, List.setIfInBounds_toArray, List.set_cons_zero, List.set_cons_succ])
          generalize (Y21.alloc (.cells #[] 49)) = Y22 at *
          have BB22 := Lib.hid (BB21.out.trans (b22.mono (by omega)))
          have KR22 := Lib.hid (blkB KR21.out b22 (by omega))
          have kh22 := Lib.hid (blkB kh21.out b22 (by omega))
          have of0_22 := Lib.hid (of0_21.out.frame (fun b hb => b22.block b (by have := fb0.out b hb; omega)))
          have bs22 : Y21.heap.size ≤ Y22.heap.size := b22.size
          clear b22
          refine wpTree_one ?_
          refine stepT_mk rfl (fun K hK => ?_)
          refine wp_append_any _ (.tmp 12) (.tmp 16) _ rfl Y21.heap.size 49 iT _ 9 112 Tryz.underlying31 hT0 hT1 hT2 hT3 rfl (by omega) (.slice (some ⟨Y21.heap.size, 0, none⟩) 0 0) 0 [] rfl e22.out w.heap.size A1 n.sectors.length C1 x1 rfl (DS1.out.below BB22.out) ON1.out (by simp only [maxLen]; omega) (by omega) (by omega) ?_
          intro v23_ Y23 hown hg hat
          simp only [Nat.zero_add, List.nil_append] at hown
          have bs23 : Y22.heap.size ≤ Y23.heap.size := hg.size
          have b23 : Below Y21.heap.size Y22 Y23 := (Below.refl _ _).grown hg (by omega) (fun k hk => by simp [Value.ownBlock] at hk; omega)
          have kp23 : Hid (∀ b, b < Y22.heap.size → b ≠ Y21.heap.size → Y23.heap[b]? = Y22.heap[b]?) := fun b hb hne => hg.block b hb (fun e => hne (by simpa [Value.ownBlock] using e))
          obtain ⟨f1, of_, if_, df_⟩ := (grow_Sector hown XS1.out).toOwnB (lo := Y21.heap.size) (by decide) In.nil (Nat.le_refl _)
          obtain ⟨a1, c1, ev, -⟩ := ownsRow_slice hown
          subst ev
          have fb1 : Hid (∀ y ∈ f1, y = Y21.heap.size ∨ (Y22.heap.size ≤ y ∧ y < Y23.heap.size)) := fun y hy => by
            rcases df_ y hy with h | h
            · rcases hat with e | e
              · rw [e] at h; left; simpa [Value.ownBlock] using h.symm
              · rw [e] at h; injection h with h; exact Or.inr ⟨by omega, (if_ y hy).2⟩
            · simp at h
          have of1_23 := Lib.hid of_
          have ii1 := if_
          clear hown hg hat of_ if_ df_
          refine hK.out _ _ (⟨(bat (BB22.out.trans (b23.mono (by omega))) bp _ hbp).trans P0.out, (bat (BB22.out.trans (b23.mono (by omega))) bp _ hbp).trans P1.out⟩) ?_
          clear hK K
          (try simp only [Act.put, List.setIfInBounds_toArray, List.set_cons_zero, List.set_cons_succ])
          have BB23 := Lib.hid (BB22.out.trans (b23.mono (by omega)))
          have KR23 := Lib.hid ((kp23.out w.heap.size (by omega) (by omega)).trans KR22.out)
          have kh23 := Lib.hid ((kp23.out Y1.heap.size (by omega) (by omega)).trans kh22.out)
          have of0_23 := Lib.hid (of0_22.out.frame (fun b hb => kp23.out b (by have := fb0.out b hb; omega) (by have := fb0.out b hb; omega)))
          clear b23
          refine wpTree_read (v := ?_) rfl (fun _ _ _ h => h) ?_ ?_
          rotate_left
          · (intro W hSW; (try dsimp only at hSW); (go_simp <;> with_reducible rfl))
          (try simp only [Act.put, List.setIfInBounds_toArray, List.set_cons_zero, List.set_cons_succ])
          refine wpTree_nil ?_
          simp only [List.drop_succ_cons, List.drop_zero]
          obtain ⟨g0, g1, g2, g3⟩ := blk4 kh23.out
          have fz := blkF kh23.out
          have kf_ : ((((Y23.setCell ⟨Y1.heap.size, 0, none⟩ (.slice a0 n.sites.length c0)).setCell ⟨Y1.heap.size, 1, none⟩ (.slice a1 n.sectors.length c1)).setCell ⟨Y1.heap.size, 2, none⟩ (.slice none 0 0)).setCell ⟨Y1.heap.size, 3, none⟩ (.slice none 0 0)).heap[Y1.heap.size]? = some (.cells #[.slice a0 n.sites.length c0, .slice a1 n.sectors.length c1, .slice none 0 0, .slice none 0 0] 35 (0, 0)) := by
            have := blkS (blkS (blkS (blkS kh23.out 0 (.slice a0 n.sites.length c0)) 1 (.slice a1 n.sectors.length c1)) 2 (.slice none 0 0)) 3 (.slice none 0 0)
            simpa using this
          have kf := Lib.hid kf_
          clear kf_
          have BF := Lib.hid (((((BB23.out).setCell (p := ⟨Y1.heap.size, 0, none⟩) (by show w.heap.size ≤ Y1.heap.size; omega) (.slice a0 n.sites.length c0)).setCell (p := ⟨Y1.heap.size, 1, none⟩) (by show w.heap.size ≤ Y1.heap.size; omega) (.slice a1 n.sectors.length c1)).setCell (p := ⟨Y1.heap.size, 2, none⟩) (by show w.heap.size ≤ Y1.heap.size; omega) (.slice none 0 0)).setCell (p := ⟨Y1.heap.size, 3, none⟩) (by show w.heap.size ≤ Y1.heap.size; omega) (.slice none 0 0))
          have O0F := Lib.hid (((((of0_23.out).setFar (p := ⟨Y1.heap.size, 0, none⟩) (fun e => by have := fb0.out _ e; simp only at this; omega) (.slice a0 n.sites.length c0)).setFar (p := ⟨Y1.heap.size, 1, none⟩) (fun e => by have := fb0.out _ e; simp only at this; omega) (.slice a1 n.sectors.length c1)).setFar (p := ⟨Y1.heap.size, 2, none⟩) (fun e => by have := fb0.out _ e; simp only at this; omega) (.slice none 0 0)).setFar (p := ⟨Y1.heap.size, 3, none⟩) (fun e => by have := fb0.out _ e; simp only at this; omega) (.slice none 0 0))
          have O1F := Lib.hid (((((of1_23.out).setFar (p := ⟨Y1.heap.size, 0, none⟩) (fun e => by have := fb1.out _ e; simp only at this; omega) (.slice a0 n.sites.length c0)).setFar (p := ⟨Y1.heap.size, 1, none⟩) (fun e => by have := fb1.out _ e; simp only at this; omega) (.slice a1 n.sectors.length c1)).setFar (p := ⟨Y1.heap.size, 2, none⟩) (fun e => by have := fb1.out _ e; simp only at this; omega) (.slice none 0 0)).setFar (p := ⟨Y1.heap.size, 3, none⟩) (fun e => by have := fb1.out _ e; simp only at this; omega) (.slice none 0 0))
          have KRF := Lib.hid (blkO (blkO (blkO (blkO (KR23.out) (p := ⟨Y1.heap.size, 0, none⟩) (by show w.heap.size ≠ Y1.heap.size; omega) (.slice a0 n.sites.length c0)) (p := ⟨Y1.heap.size, 1, none⟩) (by show w.heap.size ≠ Y1.heap.size; omega) (.slice a1 n.sectors.length c1)) (p := ⟨Y1.heap.size, 2, none⟩) (by show w.heap.size ≠ Y1.heap.size; omega) (.slice none 0 0)) (p := ⟨Y1.heap.size, 3, none⟩) (by show w.heap.size ≠ Y1.heap.size; omega) (.slice none 0 0))
          go_wp2_with fail
          go_meet
          exact ⟨_, a0, c0, a1, c1, f0, f1, rfl, by omega, by simp only [size_setCell]; omega, kf.out, KRF.out, O0F.out, O1F.out, fun y hy => ⟨⟨by have := fb0.out y hy; omega, by have := fb0.out y hy; simp only [size_setCell]; omega⟩, by have := fb0.out y hy; omega, fun hy2 => by have := fb0.out y hy; have := fb1.out y hy2; omega⟩, fun y hy => ⟨⟨by have := fb1.out y hy; omega, by have := fb1.out y hy; simp only [size_setCell]; omega⟩, by have := fb1.out y hy; omega⟩, BF.out⟩
        · refine stepT_mk rfl (fun K hK => ?_)
          go_simp
          have b24 : Below Y20.heap.size Y20 (Y20.alloc (.cells #[] 49)) := (Below.refl _ _).alloc (Nat.le_refl _) _
          have e24 : Hid ((Y20.alloc (.cells #[] 49)).ownsRow Y20.heap.size 49 9 (.slice (some ⟨Y20.heap.size, 0, none⟩) 0 0) 0 []) := own_emptyK Y20 49 9
          have zz24 : Y20.heap.size + 1 ≤ (Y20.alloc (.cells #[] 49)).heap.size := by simp
          refine hK.out _ _ (⟨(bat (BB20.out.trans (b24.mono (by omega))) bp _ hbp).trans P0.out, (bat (BB20.out.trans (b24.mono (by omega))) bp _ hbp).trans P1.out⟩) ?_
          clear hK K
          (try simp only [Act.put, List.setIfInBounds_toArray, List.set_cons_zero, List.set_cons_succ])
          generalize (Y20.alloc (.cells #[] 49)) = Y24 at *
          have BB24 := Lib.hid (BB20.out.trans (b24.mono (by omega)))
          have KR24 := Lib.hid (blkB KR20.out b24 (by omega))
          have kh24 := Lib.hid (blkB e20.out b24 (by omega))
          have er24_0 := Lib.hid (ownsRow_frame (w' := Y24) er20_0.out (fun b hb => by have e_ : Y.heap.size = b := (by simpa [Value.ownBlock] using hb); rw [← e_]; exact b24.block _ (by omega)))
          have bs24 : Y20.heap.size ≤ Y24.heap.size := b24.size
          clear b24
          refine wpTree_one ?_
          refine stepT_mk rfl (fun K hK => ?_)
          refine wp_append_any _ (.tmp 6) (.tmp 10) _ rfl Y.heap.size 62 iS _ 4 48 Tryz.underlying30 hS0 hS1 hS2 hS3 rfl (by omega) (.slice (some ⟨Y.heap.size, 0, none⟩) 0 0) 0 [] rfl er24_0.out w.heap.size A0 n.sites.length C0 x0 rfl (DS0.out.below BB24.out) ON0.out (by simp only [maxLen]; omega) (by omega) (by omega) ?_
          intro v25_ Y25 hown hg hat
          simp only [Nat.zero_add, List.nil_append] at hown
          have bs25 : Y24.heap.size ≤ Y25.heap.size := hg.size
          have b25 : Below Y.heap.size Y24 Y25 := (Below.refl _ _).grown hg (by omega) (fun k hk => by simp [Value.ownBlock] at hk; omega)
          have kp25 : Hid (∀ b, b < Y24.heap.size → b ≠ Y.heap.size → Y25.heap[b]? = Y24.heap[b]?) := fun b hb hne => hg.block b hb (fun e => hne (by simpa [Value.ownBlock] using e))
          obtain ⟨f0, of_, if_, df_⟩ := (grow_Site hown XS0.out).toOwnB (lo := Y.heap.size) (by decide) In.nil (Nat.le_refl _)
          obtain ⟨a0, c0, ev, -⟩ := ownsRow_slice hown
          subst ev
          have fb0 : Hid (∀ y ∈ f0, y = Y.heap.size ∨ (Y24.heap.size ≤ y ∧ y < Y25.heap.size)) := fun y hy => by
            rcases df_ y hy with h | h
            · rcases hat with e | e
              · rw [e] at h; left; simpa [Value.ownBlock] using h.symm
              · rw [e] at h; injection h with h; exact Or.inr ⟨by omega, (if_ y hy).2⟩
            · simp at h
          have of0_25 := Lib.hid of_
          have ii0 := if_
          clear hown hg hat of_ if_ df_
          refine hK.out _ _ (⟨(bat (BB24.out.trans (b25.mono (by omega))) bp _ hbp).trans P0.out, (bat (BB24.out.trans (b25.mono (by omega))) bp _ hbp).trans P1.out⟩) ?_
          clear hK K
          (try simp only [Act.put, List.setIfInBounds_toArray, List.set_cons_zero, List.set_cons_succ])
          have BB25 := Lib.hid (BB24.out.trans (b25.mono (by omega)))
          have KR25 := Lib.hid ((kp25.out w.heap.size (by omega) (by omega)).trans KR24.out)
          have kh25 := Lib.hid ((kp25.out Y1.heap.size (by omega) (by omega)).trans kh24.out)
          have er25_6 := Lib.hid (ownsRow_frame (w' := Y25) e24.out (fun b hb => by have e_ : Y20.heap.size = b := (by simpa [Value.ownBlock] using hb); rw [← e_]; exact kp25.out _ (by omega) (by omega)))
          clear b25
          refine wpTree_one ?_
          refine stepT_mk rfl (fun K hK => ?_)
          refine wp_append_any _ (.tmp 12) (.tmp 16) _ rfl Y20.heap.size 49 iT _ 9 112 Tryz.underlying31 hT0 hT1 hT2 hT3 rfl (by omega) (.slice (some ⟨Y20.heap.size, 0, none⟩) 0 0) 0 [] rfl er25_6.out w.heap.size A1 n.sectors.length C1 x1 rfl (DS1.out.below BB25.out) ON1.out (by simp only [maxLen]; omega) (by omega) (by omega) ?_
          intro v26_ Y26 hown hg hat
          simp only [Nat.zero_add, List.nil_append] at hown
          have bs26 : Y25.heap.size ≤ Y26.heap.size := hg.size
          have b26 : Below Y20.heap.size Y25 Y26 := (Below.refl _ _).grown hg (by omega) (fun k hk => by simp [Value.ownBlock] at hk; omega)
          have kp26 : Hid (∀ b, b < Y25.heap.size → b ≠ Y20.heap.size → Y26.heap[b]? = Y25.heap[b]?) := fun b hb hne => hg.block b hb (fun e => hne (by simpa [Value.ownBlock] using e))
          obtain ⟨f1, of_, if_, df_⟩ := (grow_Sector hown XS1.out).toOwnB (lo := Y20.heap.size) (by decide) In.nil (Nat.le_refl _)
          obtain ⟨a1, c1, ev, -⟩ := ownsRow_slice hown
          subst ev
          have fb1 : Hid (∀ y ∈ f1, y = Y20.heap.size ∨ (Y25.heap.size ≤ y ∧ y < Y26.heap.size)) := fun y hy => by
            rcases df_ y hy with h | h
            · rcases hat with e | e
              · rw [e] at h; left; simpa [Value.ownBlock] using h.symm
              · rw [e] at h; injection h with h; exact Or.inr ⟨by omega, (if_ y hy).2⟩
            · simp at h
          have of1_26 := Lib.hid of_
          have ii1 := if_
          clear hown hg hat of_ if_ df_
          refine hK.out _ _ (⟨(bat (BB25.out.trans (b26.mono (by omega))) bp _ hbp).trans P0.out, (bat (BB25.out.trans (b26.mono (by omega))) bp _ hbp).trans P1.out⟩) ?_
          clear hK K
          (try simp only [Act.put, List.setIfInBounds_toArray, List.set_cons_zero, List.set_cons_succ])
          have BB26 := Lib.hid (BB25.out.trans (b26.mono (by omega)))
          have KR26 := Lib.hid ((kp26.out w.heap.size (by omega) (by omega)).trans KR25.out)
          have kh26 := Lib.hid ((kp26.out Y1.heap.size (by omega) (by omega)).trans kh25.out)
          have of0_26 := Lib.hid (of0_25.out.frame (fun b hb => kp26.out b (by have := fb0.out b hb; omega) (by have := fb0.out b hb; omega)))
          clear b26
          refine wpTree_read (v := ?_) rfl (fun _ _ _ h => h) ?_ ?_
          rotate_left
          · (intro W hSW; (try dsimp only at hSW); (go_simp <;> with_reducible rfl))
          (try simp only [Act.put, List.setIfInBounds_toArray, List.set_cons_zero, List.set_cons_succ])
          refine wpTree_nil ?_
          simp only [List.drop_succ_cons, List.drop_zero]
          obtain ⟨g0, g1, g2, g3⟩ := blk4 kh26.out
          have fz := blkF kh26.out
          have kf_ : ((((Y26.setCell ⟨Y1.heap.size, 0, none⟩ (.slice a0 n.sites.length c0)).setCell ⟨Y1.heap.size, 1, none⟩ (.slice a1 n.sectors.length c1)).setCell ⟨Y1.heap.size, 2, none⟩ (.slice none 0 0)).setCell ⟨Y1.heap.size, 3, none⟩ (.slice none 0 0)).heap[Y1.heap.size]? = some (.cells #[.slice a0 n.sites.length c0, .slice a1 n.sectors.length c1, .slice none 0 0, .slice none 0 0] 35 (0, 0)) := by
            have := blkS (blkS (blkS (blkS kh26.out 0 (.slice a0 n.sites.length c0)) 1 (.slice a1 n.sectors.length c1)) 2 (.slice none 0 0)) 3 (.slice none 0 0)
            simpa using this
          have kf := Lib.hid kf_
          clear kf_
          have BF := Lib.hid (((((BB26.out).setCell (p := ⟨Y1.heap.size, 0, none⟩) (by show w.heap.size ≤ Y1.heap.size; omega) (.slice a0 n.sites.length c0)).setCell (p := ⟨Y1.heap.size, 1, none⟩) (by show w.heap.size ≤ Y1.heap.size; omega) (.slice a1 n.sectors.length c1)).setCell (p := ⟨Y1.heap.size, 2, none⟩) (by show w.heap.size ≤ Y1.heap.size; omega) (.slice none 0 0)).setCell (p := ⟨Y1.heap.size, 3, none⟩) (by show w.heap.size ≤ Y1.heap.size; omega) (.slice none 0 0))
          have O0F := Lib.hid (((((of0_26.out).setFar (p := ⟨Y1.heap.size, 0, none⟩) (fun e => by have := fb0.out _ e; simp only at this; omega) (.slice a0 n.sites.length c0)).setFar (p := ⟨Y1.heap.size, 1, none⟩) (fun e => by have := fb0.out _ e; simp only at this; omega) (.slice a1 n.sectors.length c1)).setFar (p := ⟨Y1.heap.size, 2, none⟩) (fun e => by have := fb0.out _ e; simp only at this; omega) (.slice none 0 0)).setFar (p := ⟨Y1.heap.size, 3, none⟩) (fun e => by have := fb0.out _ e; simp only at this; omega) (.slice none 0 0))
          have O1F := Lib.hid (((((of1_26.out).setFar (p := ⟨Y1.heap.size, 0, none⟩) (fun e => by have := fb1.out _ e; simp only at this; omega) (.slice a0 n.sites.length c0)).setFar (p := ⟨Y1.heap.size, 1, none⟩) (fun e => by have := fb1.out _ e; simp only at this; omega) (.slice a1 n.sectors.length c1)).setFar (p := ⟨Y1.heap.size, 2, none⟩) (fun e => by have := fb1.out _ e; simp only at this; omega) (.slice none 0 0)).setFar (p := ⟨Y1.heap.size, 3, none⟩) (fun e => by have := fb1.out _ e; simp only at this; omega) (.slice none 0 0))
          have KRF := Lib.hid (blkO (blkO (blkO (blkO (KR26.out) (p := ⟨Y1.heap.size, 0, none⟩) (by show w.heap.size ≠ Y1.heap.size; omega) (.slice a0 n.sites.length c0)) (p := ⟨Y1.heap.size, 1, none⟩) (by show w.heap.size ≠ Y1.heap.size; omega) (.slice a1 n.sectors.length c1)) (p := ⟨Y1.heap.size, 2, none⟩) (by show w.heap.size ≠ Y1.heap.size; omega) (.slice none 0 0)) (p := ⟨Y1.heap.size, 3, none⟩) (by show w.heap.size ≠ Y1.heap.size; omega) (.slice none 0 0))
          go_wp2_with fail
          go_meet
          exact ⟨_, a0, c0, a1, c1, f0, f1, rfl, by omega, by simp only [size_setCell]; omega, kf.out, KRF.out, O0F.out, O1F.out, fun y hy => ⟨⟨by have := fb0.out y hy; omega, by have := fb0.out y hy; simp only [size_setCell]; omega⟩, by have := fb0.out y hy; omega, fun hy2 => by have := fb0.out y hy; have := fb1.out y hy2; omega⟩, fun y hy => ⟨⟨by have := fb1.out y hy; omega, by have := fb1.out y hy; simp only [size_setCell]; omega⟩, by have := fb1.out y hy; omega⟩, BF.out⟩
    · refine stepT_mk rfl (fun K hK => ?_)
      go_simp
      have b27 : Below Y.heap.size Y (Y.alloc (.cells #[] 49)) := (Below.refl _ _).alloc (Nat.le_refl _) _
      have e27 : Hid ((Y.alloc (.cells #[] 49)).ownsRow Y.heap.size 49 9 (.slice (some ⟨Y.heap.size, 0, none⟩) 0 0) 0 []) := own_emptyK Y 49 9
      have zz27 : Y.heap.size + 1 ≤ (Y.alloc (.cells #[] 49)).heap.size := by simp
      refine hK.out _ _ (⟨(bat (BB0.out.trans (b27.mono (by omega))) bp _ hbp).trans P0.out, (bat (BB0.out.trans (b27.mono (by omega))) bp _ hbp).trans P1.out⟩) ?_
      clear hK K
      (try simp only [Act.put, List.setIfInBounds_toArray, List.set_cons_zero, List.set_cons_succ])
      generalize (Y.alloc (.cells #[] 49)) = Y27 at *
      have BB27 := Lib.hid (BB0.out.trans (b27.mono (by omega)))
      have KR27 := Lib.hid (blkB KR0.out b27 (by omega))
      have bs27 : Y.heap.size ≤ Y27.heap.size := b27.size
      clear b27
      refine wpTree_two ?_ ?_
      · refine stepT_mk rfl (fun K hK => ?_)
        go_simp
        have b28 : Below Y27.heap.size Y27 (Y27.alloc (.cells #[] 62)) := (Below.refl _ _).alloc (Nat.le_refl _) _
        have e28 : Hid ((Y27.alloc (.cells #[] 62)).ownsRow Y27.heap.size 62 4 (.slice (some ⟨Y27.heap.size, 0, none⟩) 0 0) 0 []) := own_emptyK Y27 62 4
        have zz28 : Y27.heap.size + 1 ≤ (Y27.alloc (.cells #[] 62)).heap.size := by simp
        refine hK.out _ _ (⟨(bat (BB27.out.trans (b28.mono (by omega))) bp _ hbp).trans P0.out, (bat (BB27.out.trans (b28.mono (by omega))) bp _ hbp).trans P1.out⟩) ?_
        clear hK K
        (try simp only [Act.put, List.setIfInBounds_toArray, List.set_cons_zero, List.set_cons_succ])
        generalize (Y27.alloc (.cells #[] 62)) = Y28 at *
        have BB28 := Lib.hid (BB27.out.trans (b28.mono (by omega)))
        have KR28 := Lib.hid (blkB KR27.out b28 (by omega))
        have er28_6 := Lib.hid (ownsRow_frame (w' := Y28) e27.out (fun b hb => by have e_ : Y.heap.size = b := (by simpa [Value.ownBlock] using hb); rw [← e_]; exact b28.block _ (by omega)))
        have bs28 : Y27.heap.size ≤ Y28.heap.size := b28.size
        clear b28
        refine wpTree_two ?_ ?_
        · refine stepT_mk rfl (fun K hK => ?_)
          refine wp_append_any _ (.tmp 6) (.tmp 10) _ rfl Y27.heap.size 62 iS _ 4 48 Tryz.underlying30 hS0 hS1 hS2 hS3 rfl (by omega) (.slice (some ⟨Y27.heap.size, 0, none⟩) 0 0) 0 [] rfl e28.out w.heap.size A0 n.sites.length C0 x0 rfl (DS0.out.below BB28.out) ON0.out (by simp only [maxLen]; omega) (by omega) (by omega) ?_
          intro v29_ Y29 hown hg hat
          simp only [Nat.zero_add, List.nil_append] at hown
          have bs29 : Y28.heap.size ≤ Y29.heap.size := hg.size
          have b29 : Below Y27.heap.size Y28 Y29 := (Below.refl _ _).grown hg (by omega) (fun k hk => by simp [Value.ownBlock] at hk; omega)
          have kp29 : Hid (∀ b, b < Y28.heap.size → b ≠ Y27.heap.size → Y29.heap[b]? = Y28.heap[b]?) := fun b hb hne => hg.block b hb (fun e => hne (by simpa [Value.ownBlock] using e))
          obtain ⟨f0, of_, if_, df_⟩ := (grow_Site hown XS0.out).toOwnB (lo := Y27.heap.size) (by decide) In.nil (Nat.le_refl _)
          obtain ⟨a0, c0, ev, -⟩ := ownsRow_slice hown
          subst ev
          have fb0 : Hid (∀ y ∈ f0, y = Y27.heap.size ∨ (Y28.heap.size ≤ y ∧ y < Y29.heap.size)) := fun y hy => by
            rcases df_ y hy with h | h
            · rcases hat with e | e
              · rw [e] at h; left; simpa [Value.ownBlock] using h.symm
              · rw [e] at h; injection h with h; exact Or.inr ⟨by omega, (if_ y hy).2⟩
            · simp at h
          have of0_29 := Lib.hid of_
          have ii0 := if_
          clear hown hg hat of_ if_ df_
          refine hK.out _ _ (⟨(bat (BB28.out.trans (b29.mono (by omega))) bp _ hbp).trans P0.out, (bat (BB28.out.trans (b29.mono (by omega))) bp _ hbp).trans P1.out⟩) ?_
          clear hK K
          (try simp only [Act.put, List.setIfInBounds_toArray, List.set_cons_zero, List.set_cons_succ])
          have BB29 := Lib.hid (BB28.out.trans (b29.mono (by omega)))
          have KR29 := Lib.hid ((kp29.out w.heap.size (by omega) (by omega)).trans KR28.out)
          have er29_6 := Lib.hid (ownsRow_frame (w' := Y29) er28_6.out (fun b hb => by have e_ : Y.heap.size = b := (by simpa [Value.ownBlock] using hb); rw [← e_]; exact kp29.out _ (by omega) (by omega)))
          clear b29
          refine wpTree_two ?_ ?_
          · refine stepT_mk rfl (fun K hK => ?_)
            refine wp_append_any _ (.tmp 12) (.tmp 16) _ rfl Y.heap.size 49 iT _ 9 112 Tryz.underlying31 hT0 hT1 hT2 hT3 rfl (by omega) (.slice (some ⟨Y.heap.size, 0, none⟩) 0 0) 0 [] rfl er29_6.out w.heap.size A1 n.sectors.length C1 x1 rfl (DS1.out.below BB29.out) ON1.out (by simp only [maxLen]; omega) (by omega) (by omega) ?_
            intro v30_ Y30 hown hg hat
            simp only [Nat.zero_add, List.nil_append] at hown
            have bs30 : Y29.heap.size ≤ Y30.heap.size := hg.size
            have b30 : Below Y.heap.size Y29 Y30 := (Below.refl _ _).grown hg (by omega) (fun k hk => by simp [Value.ownBlock] at hk; omega)
            have kp30 : Hid (∀ b, b < Y29.heap.size → b ≠ Y.heap.size → Y30.heap[b]? = Y29.heap[b]?) := fun b hb hne => hg.block b hb (fun e => hne (by simpa [Value.ownBlock] using e))
            obtain ⟨f1, of_, if_, df_⟩ := (grow_Sector hown XS1.out).toOwnB (lo := Y.heap.size) (by decide) In.nil (Nat.le_refl _)
            obtain ⟨a1, c1, ev, -⟩ := ownsRow_slice hown
            subst ev
            have fb1 : Hid (∀ y ∈ f1, y = Y.heap.size ∨ (Y29.heap.size ≤ y ∧ y < Y30.heap.size)) := fun y hy => by
              rcases df_ y hy with h | h
              · rcases hat with e | e
                · rw [e] at h; left; simpa [Value.ownBlock] using h.symm
                · rw [e] at h; injection h with h; exact Or.inr ⟨by omega, (if_ y hy).2⟩
              · simp at h
            have of1_30 := Lib.hid of_
            have ii1 := if_
            clear hown hg hat of_ if_ df_
            refine hK.out _ _ (⟨(bat (BB29.out.trans (b30.mono (by omega))) bp _ hbp).trans P0.out, (bat (BB29.out.trans (b30.mono (by omega))) bp _ hbp).trans P1.out⟩) ?_
            clear hK K
            (try simp only [Act.put, List.setIfInBounds_toArray, List.set_cons_zero, List.set_cons_succ])
            have BB30 := Lib.hid (BB29.out.trans (b30.mono (by omega)))
            have KR30 := Lib.hid ((kp30.out w.heap.size (by omega) (by omega)).trans KR29.out)
            have of0_30 := Lib.hid (of0_29.out.frame (fun b hb => kp30.out b (by have := fb0.out b hb; omega) (by have := fb0.out b hb; omega)))
            clear b30
            refine wpTree_read (v := ?_) rfl (fun _ _ _ h => h) ?_ ?_
            rotate_left
            · (intro W hSW; (try dsimp only at hSW); (go_simp <;> with_reducible rfl))
            (try simp only [Act.put, List.setIfInBounds_toArray, List.set_cons_zero, List.set_cons_succ])
            refine wpTree_one ?_
            refine stepT_mk rfl (fun K hK => ?_)
            go_simp
            have b31 : Below Y30.heap.size Y30 (Y30.alloc (.cells #[.slice none 0 0, .slice none 0 0, .slice none 0 0, .slice none 0 0] 35)) := (Below.refl _ _).alloc (Nat.le_refl _) _
            have e31 : Hid ((Y30.alloc (.cells #[.slice none 0 0, .slice none 0 0, .slice none 0 0, .slice none 0 0] 35)).heap[Y30.heap.size]? = some (.cells #[.slice none 0 0, .slice none 0 0, .slice none 0 0, .slice none 0 0] 35 (0, 0))) := blkN Y30 _ _
            have zz31 : Y30.heap.size + 1 ≤ (Y30.alloc (.cells #[.slice none 0 0, .slice none 0 0, .slice none 0 0, .slice none 0 0] 35)).heap.size := by simp
            refine hK.out _ _ (⟨(bat (BB30.out.trans (b31.mono (by omega))) bp _ hbp).trans P0.out, (bat (BB30.out.trans (b31.mono (by omega))) bp _ hbp).trans P1.out⟩) ?_
            clear hK K
            (try simp only [Act.put, List.setIfInBounds_toArray, List.set_cons_zero, List.set_cons_succ])
            generalize (Y30.alloc (.cells #[.slice none 0 0, .slice none 0 0, .slice none 0 0, .slice none 0 0] 35)) = Y31 at *
            have BB31 := Lib.hid (BB30.out.trans (b31.mono (by omega)))
            have KR31 := Lib.hid (blkB KR30.out b31 (by omega))
            have of0_31 := Lib.hid (of0_30.out.frame (fun b hb => b31.block b (by have := fb0.out b hb; omega)))
            have of1_31 := Lib.hid (of1_30.out.frame (fun b hb => b31.block b (by have := fb1.out b hb; omega)))
            have bs31 : Y30.heap.size ≤ Y31.heap.size := b31.size
            clear b31
            refine wpTree_nil ?_
            simp only [List.drop_succ_cons, List.drop_zero]
            obtain ⟨g0, g1, g2, g3⟩ := blk4 e31.out
            have fz := blkF e31.out
            have kf_ : ((((Y31.setCell ⟨Y30.heap.size, 0, none⟩ (.slice a0 n.sites.length c0)).setCell ⟨Y30.heap.size, 1, none⟩ (.slice a1 n.sectors.length c1)).setCell ⟨Y30.heap.size, 2, none⟩ (.slice none 0 0)).setCell ⟨Y30.heap.size, 3, none⟩ (.slice none 0 0)).heap[Y30.heap.size]? = some (.cells #[.slice a0 n.sites.length c0, .slice a1 n.sectors.length c1, .slice none 0 0, .slice none 0 0] 35 (0, 0)) := by
              have := blkS (blkS (blkS (blkS e31.out 0 (.slice a0 n.sites.length c0)) 1 (.slice a1 n.sectors.length c1)) 2 (.slice none 0 0)) 3 (.slice none 0 0)
              simpa using this
            have kf := Lib.hid kf_
            clear kf_
            have BF := Lib.hid (((((BB31.out).setCell (p := ⟨Y30.heap.size, 0, none⟩) (by show w.heap.size ≤ Y30.heap.size; omega) (.slice a0 n.sites.length c0)).setCell (p := ⟨Y30.heap.size, 1, none⟩) (by show w.heap.size ≤ Y30.heap.size; omega) (.slice a1 n.sectors.length c1)).setCell (p := ⟨Y30.heap.size, 2, none⟩) (by show w.heap.size ≤ Y30.heap.size; omega) (.slice none 0 0)).setCell (p := ⟨Y30.heap.size, 3, none⟩) (by show w.heap.size ≤ Y30.heap.size; omega) (.slice none 0 0))
            have O0F := Lib.hid (((((of0_31.out).setFar (p := ⟨Y30.heap.size, 0, none⟩) (fun e => by have := fb0.out _ e; simp only at this; omega) (.slice a0 n.sites.length c0)).setFar (p := ⟨Y30.heap.size, 1, none⟩) (fun e => by have := fb0.out _ e; simp only at this; omega) (.slice a1 n.sectors.length c1)).setFar (p := ⟨Y30.heap.size, 2, none⟩) (fun e => by have := fb0.out _ e; simp only at this; omega) (.slice none 0 0)).setFar (p := ⟨Y30.heap.size, 3, none⟩) (fun e => by have := fb0.out _ e; simp only at this; omega) (.slice none 0 0))
            have O1F := Lib.hid (((((of1_31.out).setFar (p := ⟨Y30.heap.size, 0, none⟩) (fun e => by have := fb1.out _ e; simp only at this; omega) (.slice a0 n.sites.length c0)).setFar (p := ⟨Y30.heap.size, 1, none⟩) (fun e => by have := fb1.out _ e; simp only at this; omega) (.slice a1 n.sectors.length c1)).setFar (p := ⟨Y30.heap.size, 2, none⟩) (fun e => by have := fb1.out _ e; simp only at this; omega) (.slice none 0 0)).setFar (p := ⟨Y30.heap.size, 3, none⟩) (fun e => by have := fb1.out _ e; simp only at this; omega) (.slice none 0 0))
            have KRF := Lib.hid (blkO (blkO (blkO (blkO (KR31.out) (p := ⟨Y30.heap.size, 0, none⟩) (by show w.heap.size ≠ Y30.heap.size; omega) (.slice a0 n.sites.length c0)) (p := ⟨Y30.heap.size, 1, none⟩) (by show w.heap.size ≠ Y30.heap.size; omega) (.slice a1 n.sectors.length c1)) (p := ⟨Y30.heap.size, 2, none⟩) (by show w.heap.size ≠ Y30.heap.size; omega) (.slice none 0 0)) (p := ⟨Y30.heap.size, 3, none⟩) (by show w.heap.size ≠ Y30.heap.size; omega) (.slice none 0 0))
            go_wp2_with fail
            go_meet
            exact ⟨_, a0, c0, a1, c1, f0, f1, rfl, by omega, by simp only [size_setCell]; omega, kf.out, KRF.out, O0F.out, O1F.out, fun y hy => ⟨⟨by have := fb0.out y hy; omega, by have := fb0.out y hy; simp only [size_setCell]; omega⟩, by have := fb0.out y hy; omega, fun hy2 => by have := fb0.out y hy; have := fb1.out y hy2; omega⟩, fun y hy => ⟨⟨by have := fb1.out y hy; omega, by have := fb1.out y hy; simp only [size_setCell]; omega⟩, by have := fb1.out y hy; omega⟩, BF.out⟩
          · refine stepT_mk rfl (fun K hK => ?_)
            go_simp
            have b32 : Below Y29.heap.size Y29 (Y29.alloc (.cells #[.slice none 0 0, .slice none 0 0, .slice none 0 0, .slice none 0 0] 35)) := (Below.refl _ _).alloc (Nat.le_refl _) _
            have e32 : Hid ((Y29.alloc (.cells #[.slice none 0 0, .slice none 0 0, .slice none 0 0, .slice none 0 0] 35)).heap[Y29.heap.size]? = some (.cells #[.slice none 0 0, .slice none 0 0, .slice none 0 0, .slice none 0 0] 35 (0, 0))) := blkN Y29 _ _
            have zz32 : Y29.heap.size + 1 ≤ (Y29.alloc (.cells #[.slice none 0 0, .slice none 0 0, .slice none 0 0, .slice none 0 0] 35)).heap.size := by simp
            refine hK.out _ _ (⟨(bat (BB29.out.trans (b32.mono (by omega))) bp _ hbp).trans P0.out, (bat (BB29.out.trans (b32.mono (by omega))) bp _ hbp).trans P1.out⟩) ?_
            clear hK K
            (try simp only [Act.put, List.setIfInBounds_toArray, List.set_cons_zero, List.set_cons_succ])
            generalize (Y29.alloc (.cells #[.slice none 0 0, .slice none 0 0, .slice none 0 0, .slice none 0 0] 35)) = Y32 at *
            have BB32 := Lib.hid (BB29.out.trans (b32.mono (by omega)))
            have KR32 := Lib.hid (blkB KR29.out b32 (by omega))
            have er32_6 := Lib.hid (ownsRow_frame (w' := Y32) er29_6.out (fun b hb => by have e_ : Y.heap.size = b := (by simpa [Value.ownBlock] using hb); rw [← e_]; exact b32.block _ (by omega)))
            have of0_32 := Lib.hid (of0_29.out.frame (fun b hb => b32.block b (by have := fb0.out b hb; omega)))
            have bs32 : Y29.heap.size ≤ Y32.heap.size := b32.size
            clear b32
            refine wpTree_one ?_
            refine stepT_mk rfl (fun K hK => ?_)
            refine wp_append_any _ (.tmp 12) (.tmp 16) _ rfl Y.heap.size 49 iT _ 9 112 Tryz.underlying31 hT0 hT1 hT2 hT3 rfl (by omega) (.slice (some ⟨Y.heap.size, 0, none⟩) 0 0) 0 [] rfl er32_6.out w.heap.size A1 n.sectors.length C1 x1 rfl (DS1.out.below BB32.out) ON1.out (by simp only [maxLen]; omega) (by omega) (by omega) ?_
            intro v33_ Y33 hown hg hat
            simp only [Nat.zero_add, List.nil_append] at hown
            have bs33 : Y32.heap.size ≤ Y33.heap.size := hg.size
            have b33 : Below Y.heap.size Y32 Y33 := (Below.refl _ _).grown hg (by omega) (fun k hk => by simp [Value.ownBlock] at hk; omega)
            have kp33 : Hid (∀ b, b < Y32.heap.size → b ≠ Y.heap.size → Y33.heap[b]? = Y32.heap[b]?) := fun b hb hne => hg.block b hb (fun e => hne (by simpa [Value.ownBlock] using e))
            obtain ⟨f1, of_, if_, df_⟩ := (grow_Sector hown XS1.out).toOwnB (lo := Y.heap.size) (by decide) In.nil (Nat.le_refl _)
            obtain ⟨a1, c1, ev, -⟩ := ownsRow_slice hown
            subst ev
            have fb1 : Hid (∀ y ∈ f1, y = Y.heap.size ∨ (Y32.heap.size ≤ y ∧ y < Y33.heap.size)) := fun y hy => by
              rcases df_ y hy with h | h
              · rcases hat with e | e
                · rw [e] at h; left; simpa [Value.ownBlock] using h.symm
                · rw [e] at h; injection h with h; exact Or.inr ⟨by omega, (if_ y hy).2⟩
              · simp at h
            have of1_33 := Lib.hid of_
            have ii1 := if_
            clear hown hg hat of_ if_ df_
            refine hK.out _ _ (⟨(bat (BB32.out.trans (b33.mono (by omega))) bp _ hbp).trans P0.out, (bat (BB32.out.trans (b33.mono (by omega))) bp _ hbp).trans P1.out⟩) ?_
            clear hK K
            (try simp only [Act.put, List.setIfInBounds_toArray, List.set_cons_zero, List.set_cons_succ])
            have BB33 := Lib.hid (BB32.out.trans (b33.mono (by omega)))
            have KR33 := Lib.hid ((kp33.out w.heap.size (by omega) (by omega)).trans KR32.out)
            have kh33 := Lib.hid ((kp33.out Y29.heap.size (by omega) (by omega)).trans e32.out)
            have of0_33 := Lib.hid (of0_32.out.frame (fun b hb => kp33.out b (by have := fb0.out b hb; omega) (by have := fb0.out b hb; omega)))
            clear b33
            refine wpTree_read (v := ?_) rfl (fun _ _ _ h => h) ?_ ?_
            rotate_left
            · (intro W hSW; (try dsimp only at hSW); (go_simp <;> with_reducible rfl))
            (try simp only [Act.put, List.setIfInBounds_toArray, List.set_cons_zero, List.set_cons_succ])
            refine wpTree_nil ?_
            simp only [List.drop_succ_cons, List.drop_zero]
            obtain ⟨g0, g1, g2, g3⟩ := blk4 kh33.out
            have fz := blkF kh33.out
            have kf_ : ((((Y33.setCell ⟨Y29.heap.size, 0, none⟩ (.slice a0 n.sites.length c0)).setCell ⟨Y29.heap.size, 1, none⟩ (.slice a1 n.sectors.length c1)).setCell ⟨Y29.heap.size, 2, none⟩ (.slice none 0 0)).setCell ⟨Y29.heap.size, 3, none⟩ (.slice none 0 0)).heap[Y29.heap.size]? = some (.cells #[.slice a0 n.sites.length c0, .slice a1 n.sectors.length c1, .slice none 0 0, .slice none 0 0] 35 (0, 0)) := by
              have := blkS (blkS (blkS (blkS kh33.out 0 (.slice a0 n.sites.length c0)) 1 (.slice a1 n.sectors.length c1)) 2 (.slice none 0 0)) 3 (.slice none 0 0)
              simpa using this
            have kf := Lib.hid kf_
            clear kf_
            have BF := Lib.hid (((((BB33.out).setCell (p := ⟨Y29.heap.size, 0, none⟩) (by show w.heap.size ≤ Y29.heap.size; omega) (.slice a0 n.sites.length c0)).setCell (p := ⟨Y29.heap.size, 1, none⟩) (by show w.heap.size ≤ Y29.heap.size; omega) (.slice a1 n.sectors.length c1)).setCell (p := ⟨Y29.heap.size, 2, none⟩) (by show w.heap.size ≤ Y29.heap.size; omega) (.slice none 0 0)).setCell (p := ⟨Y29.heap.size, 3, none⟩) (by show w.heap.size ≤ Y29.heap.size; omega) (.slice none 0 0))
            have O0F := Lib.hid (((((of0_33.out).setFar (p := ⟨Y29.heap.size, 0, none⟩) (fun e => by have := fb0.out _ e; simp only at this; omega) (.slice a0 n.sites.length c0)).setFar (p := ⟨Y29.heap.size, 1, none⟩) (fun e => by have := fb0.out _ e; simp only at this; omega) (.slice a1 n.sectors.length c1)).setFar (p := ⟨Y29.heap.size, 2, none⟩) (fun e => by have := fb0.out _ e; simp only at this; omega) (.slice none 0 0)).setFar (p := ⟨Y29.heap.size, 3, none⟩) (fun e => by have := fb0.out _ e; simp only at this; omega) (.slice none 0 0))
            have O1F := Lib.hid (((((of1_33.out).setFar (p := ⟨Y29.heap.size, 0, none⟩) (fun e => by have := fb1.out _ e; simp only at this; omega) (.slice a0 n.sites.length c0)).setFar (p := ⟨Y29.heap.size, 1, none⟩) (fun e => by have := fb1.out _ e; simp only at this; omega) (.slice a1 n.sectors.length c1)).setFar (p := ⟨Y29.heap.size, 2, none⟩) (fun e => by have := fb1.out _ e; simp only at this; omega) (.slice none 0 0)).setFar (p := ⟨Y29.heap.size, 3, none⟩) (fun e => by have := fb1.out _ e; simp only at this; omega) (.slice none 0 0))
            have KRF := Lib.hid (blkO (blkO (blkO (blkO (KR33.out) (p := ⟨Y29.heap.size, 0, none⟩) (by show w.heap.size ≠ Y29.heap.size; omega) (.slice a0 n.sites.length c0)) (p := ⟨Y29.heap.size, 1, none⟩) (by show w.heap.size ≠ Y29.heap.size; omega) (.slice a1 n.sectors.length c1)) (p := ⟨Y29.heap.size, 2, none⟩) (by show w.heap.size ≠ Y29.heap.size; omega) (.slice none 0 0)) (p := ⟨Y29.heap.size, 3, none⟩) (by show w.heap.size ≠ Y29.heap.size; omega) (.slice none 0 0))
            go_wp2_with fail
            go_meet
            exact ⟨_, a0, c0, a1, c1, f0, f1, rfl, by omega, by simp only [size_setCell]; omega, kf.out, KRF.out, O0F.out, O1F.out, fun y hy => ⟨⟨by have := fb0.out y hy; omega, by have := fb0.out y hy; simp only [size_setCell]; omega⟩, by have := fb0.out y hy; omega, fun hy2 => by have := fb0.out y hy; have := fb1.out y hy2; omega⟩, fun y hy => ⟨⟨by have := fb1.out y hy; omega, by have := fb1.out y hy; simp only [size_setCell]; omega⟩, by have := fb1.out y hy; omega⟩, BF.out⟩
        · refine stepT_mk rfl (fun K hK => ?_)
          go_simp
          have b34 : Below Y28.heap.size Y28 (Y28.alloc (.cells #[.slice none 0 0, .slice none 0 0, .slice none 0 0, .slice none 0 0] 35)) := (Below.refl _ _).alloc (Nat.le_refl _) _
          have e34 : Hid ((Y28.alloc (.cells #[.slice none 0 0, .slice none 0 0, .slice none 0 0, .slice none 0 0] 35)).heap[Y28.heap.size]? = some (.cells #[.slice none 0 0, .slice none 0 0, .slice none 0 0, .slice none 0 0] 35 (0, 0))) := blkN Y28 _ _
          have zz34 : Y28.heap.size + 1 ≤ (Y28.alloc (.cells #[.slice none 0 0, .slice none 0 0, .slice none 0 0, .slice none 0 0] 35)).heap.size := by simp
          refine hK.out _ _ (⟨(bat (BB28.out.trans (b34.mono (by omega))) bp _ hbp).trans P0.out, (bat (BB28.out.trans (b34.mono (by omega))) bp _ hbp).trans P1.out⟩) ?_
          clear hK K
          (try simp only [Act.put, List.setIfInBounds_toArray, List.set_cons_zero, List.set_cons_succ])
          generalize (Y28.alloc (.cells #[.slice none 0 0, .slice none 0 0, .slice none 0 0, .slice none 0 0] 35)) = Y34 at *
          have BB34 := Lib.hid (BB28.out.trans (b34.mono (by omega)))
          have KR34 := Lib.hid (blkB KR28.out b34 (by omega))
          have er34_6 := Lib.hid (ownsRow_frame (w' := Y34) er28_6.out (fun b hb => by have e_ : Y.heap.size = b := (by simpa [Value.ownBlock] using hb); rw [← e_]; exact b34.block _ (by omega)))
          have er34_0 := Lib.hid (ownsRow_frame (w' := Y34) e28.out (fun b hb => by have e_ : Y27.heap.size = b := (by simpa [Value.ownBlock] using hb); rw [← e_]; exact b34.block _ (by omega)))
          have bs34 : Y28.heap.size ≤ Y34.heap.size := b34.size
          clear b34
          refine wpTree_one ?_
          refine stepT_mk rfl (fun K hK => ?_)
          refine wp_append_any _ (.tmp 6) (.tmp 10) _ rfl Y27.heap.size 62 iS _ 4 48 Tryz.underlying30 hS0 hS1 hS2 hS3 rfl (by omega) (.slice (some ⟨Y27.heap.size, 0, none⟩) 0 0) 0 [] rfl er34_0.out w.heap.size A0 n.sites.length C0 x0 rfl (DS0.out.below BB34.out) ON0.out (by simp only [maxLen]; omega) (by omega) (by omega) ?_
          intro v35_ Y35 hown hg hat
          simp only [Nat.zero_add, List.nil_append] at hown
          have bs35 : Y34.heap.size ≤ Y35.heap.size := hg.size
          have b35 : Below Y27.heap.size Y34 Y35 := (Below.refl _ _).grown hg (by omega) (fun k hk => by simp [Value.ownBlock] at hk; omega)
          have kp35 : Hid (∀ b, b < Y34.heap.size → b ≠ Y27.heap.size → Y35.heap[b]? = Y34.heap[b]?) := fun b hb hne => hg.block b hb (fun e => hne (by simpa [Value.ownBlock] using e))
          obtain ⟨f0, of_, if_, df_⟩ := (grow_Site hown XS0.out).toOwnB (lo := Y27.heap.size) (by decide) In.nil (Nat.le_refl _)
          obtain ⟨a0, c0, ev, -⟩ := ownsRow_slice hown
          subst ev
          have fb0 : Hid (∀ y ∈ f0, y = Y27.heap.size ∨ (Y34.heap.size ≤ y ∧ y < Y35.heap.size)) := fun y hy => by
            rcases df_ y hy with h | h
            · rcases hat with e | e
              · rw [e] at h; left; simpa [Value.ownBlock] using h.symm
              · rw [e] at h; injection h with h; exact Or.inr ⟨by omega, (if_ y hy).2⟩
            · simp at h
          have of0_35 := Lib.hid of_
          have ii0 := if_
          clear hown hg hat of_ if_ df_
          refine hK.out _ _ (⟨(bat (BB34.out.trans (b35.mono (by omega))) bp _ hbp).trans P0.out, (bat (BB34.out.trans (b35.mono (by omega))) bp _ hbp).trans P1.out⟩) ?_
          clear hK K
          (try simp only [Act.put, List.setIfInBounds_toArray, List.set_cons_zero, List.set_cons_succ])
          have BB35 := Lib.hid (BB34.out.trans (b35.mono (by omega)))
          have KR35 := Lib.hid ((kp35.out w.heap.size (by omega) (by omega)).trans KR34.out)
          have kh35 := Lib.hid ((kp35.out Y28.heap.size (by omega) (by omega)).trans e34.out)
          have er35_6 := Lib.hid (ownsRow_frame (w' := Y35) er34_6.out (fun b hb => by have e_ : Y.heap.size = b := (by simpa [Value.ownBlock] using hb); rw [← e_]; exact kp35.out _ (by omega) (by omega)))
          clear b35
          refine wpTree_one ?_
          refine stepT_mk rfl (fun K hK => ?_)
          refine wp_append_any _ (.tmp 12) (.tmp 16) _ rfl Y.heap.size 49 iT _ 9 112 Tryz.underlying31 hT0 hT1 hT2 hT3 rfl (by omega) (.slice (some ⟨Y.heap.size, 0, none⟩) 0 0) 0 [] rfl er35_6.out w.heap.size A1 n.sectors.length C1 x1 rfl (DS1.out.below BB35.out) ON1.out (by simp only [maxLen]; omega) (by omega) (by omega) ?_
          intro v36_ Y36 hown hg hat
          simp only [Nat.zero_add, List.nil_append] at hown
          have bs36 : Y35.heap.size ≤ Y36.heap.size := hg.size
          have b36 : Below Y.heap.size Y35 Y36 := (Below.refl _ _).grown hg (by omega) (fun k hk => by simp [Value.ownBlock] at hk; omega)
          have kp36 : Hid (∀ b, b < Y35.heap.size → b ≠ Y.heap.size → Y36.heap[b]? = Y35.heap[b]?) := fun b hb hne => hg.block b hb (fun e => hne (by simpa [Value.ownBlock] using e))
          obtain ⟨f1, of_, if_, df_⟩ := (grow_Sector hown XS1.out).toOwnB (lo := Y.heap.size) (by decide) In.nil (Nat.le_refl _)
          obtain ⟨a1, c1, ev, -⟩ := ownsRow_slice hown
          subst ev
          have fb1 : Hid (∀ y ∈ f1, y = Y.heap.size ∨ (Y35.heap.size ≤ y ∧ y < Y36.heap.size)) := fun y hy => by
            rcases df_ y hy with h | h
            · rcases hat with e | e
              · rw [e] at h; left; simpa [Value.ownBlock] using h.symm
              · rw [e] at h; injection h with h; exact Or.inr ⟨by omega, (if_ y hy).2⟩
            · simp at h
          have of1_36 := Lib.hid of_
          have ii1 := if_
          clear hown hg hat of_ if_ df_
          refine hK.out _ _ (⟨(bat (BB35.out.trans (b36.mono (by omega))) bp _ hbp).trans P0.out, (bat (BB35.out.trans (b36.mono (by omega))) bp _ hbp).trans P1.out⟩) ?_
          clear hK K
          (try simp only [Act.put, List.setIfInBounds_toArray, List.set_cons_zero, List.set_cons_succ])
          have BB36 := Lib.hid (BB35.out.trans (b36.mono (by omega)))
          have KR36 := Lib.hid ((kp36.out w.heap.size (by omega) (by omega)).trans KR35.out)
          have kh36 := Lib.hid ((kp36.out Y28.heap.size (by omega) (by omega)).trans kh35.out)
          have of0_36 := Lib.hid (of0_35.out.frame (fun b hb => kp36.out b (by have := fb0.out b hb; omega) (by have := fb0.out b hb; omega)))
          clear b36
          refine wpTree_read (v := ?_) rfl (fun _ _ _ h => h) ?_ ?_
          rotate_left
          · (intro W hSW; (try dsimp only at hSW); (go_simp <;> with_reducible rfl))
          (try simp only [Act.put, List.setIfInBounds_toArray, List.set_cons_zero, List.set_cons_succ])
          refine wpTree_nil ?_
          simp only [List.drop_succ_cons, List.drop_zero]
          obtain ⟨g0, g1, g2, g3⟩ := blk4 kh36.out
          have fz := blkF kh36.out
          have kf_ : ((((Y36.setCell ⟨Y28.heap.size, 0, none⟩ (.slice a0 n.sites.length c0)).setCell ⟨Y28.heap.size, 1, none⟩ (.slice a1 n.sectors.length c1)).setCell ⟨Y28.heap.size, 2, none⟩ (.slice none 0 0)).setCell ⟨Y28.heap.size, 3, none⟩ (.slice none 0 0)).heap[Y28.heap.size]? = some (.cells #[.slice a0 n.sites.length c0, .slice a1 n.sectors.length c1, .slice none 0 0, .slice none 0 0] 35 (0, 0)) := by
            have := blkS (blkS (blkS (blkS kh36.out 0 (.slice a0 n.sites.length c0)) 1 (.slice a1 n.sectors.length c1)) 2 (.slice none 0 0)) 3 (.slice none 0 0)
            simpa using this
          have kf := Lib.hid kf_
          clear kf_
          have BF := Lib.hid (((((BB36.out).setCell (p := ⟨Y28.heap.size, 0, none⟩) (by show w.heap.size ≤ Y28.heap.size; omega) (.slice a0 n.sites.length c0)).setCell (p := ⟨Y28.heap.size, 1, none⟩) (by show w.heap.size ≤ Y28.heap.size; omega) (.slice a1 n.sectors.length c1)).setCell (p := ⟨Y28.heap.size, 2, none⟩) (by show w.heap.size ≤ Y28.heap.size; omega) (.slice none 0 0)).setCell (p := ⟨Y28.heap.size, 3, none⟩) (by show w.heap.size ≤ Y28.heap.size; omega) (.slice none 0 0))
          have O0F := Lib.hid (((((of0_36.out).setFar (p := ⟨Y28.heap.size, 0, none⟩) (fun e => by have := fb0.out _ e; simp only at this; omega) (.slice a0 n.sites.length c0)).setFar (p := ⟨Y28.heap.size, 1, none⟩) (fun e => by have := fb0.out _ e; simp only at this; omega) (.slice a1 n.sectors.length c1)).setFar (p := ⟨Y28.heap.size, 2, none⟩) (fun e => by have := fb0.out _ e; simp only at this; omega) (.slice none 0 0)).setFar (p := ⟨Y28.heap.size, 3, none⟩) (fun e => by have := fb0.out _ e; simp only at this; omega) (.slice none 0 0))
          have O1F := Lib.hid (((((of1_36.out).setFar (p := ⟨Y28.heap.size, 0, none⟩) (fun e => by have := fb1.out _ e; simp only at this; omega) (.slice a0 n.sites.length c0)).setFar (p := ⟨Y28.heap.size, 1, none⟩) (fun e => by have := fb1.out _ e; simp only at this; omega) (.slice a1 n.sectors.length c1)).setFar (p := ⟨Y28.heap.size, 2, none⟩) (fun e => by have := fb1.out _ e; simp only at this; omega) (.slice none 0 0)).setFar (p := ⟨Y28.heap.size, 3, none⟩) (fun e => by have := fb1.out _ e; simp only at this; omega) (.slice none 0 0))
          have KRF := Lib.hid (blkO (blkO (blkO (blkO (KR36.out) (p := ⟨Y28.heap.size, 0, none⟩) (by show w.heap.size ≠ Y28.heap.size; omega) (.slice a0 n.sites.length c0)) (p := ⟨Y28.heap.size, 1, none⟩) (by show w.heap.size ≠ Y28.heap.size; omega) (.slice a1 n.sectors.length c1)) (p := ⟨Y28.heap.size, 2, none⟩) (by show w.heap.size ≠ Y28.heap.size; omega) (.slice none 0 0)) (p := ⟨Y28.heap.size, 3, none⟩) (by show w.heap.size ≠ Y28.heap.size; omega) (.slice none 0 0))
          go_wp2_with fail
          go_meet
          exact ⟨_, a0, c0, a1, c1, f0, f1, rfl, by omega, by simp only [size_setCell]; omega, kf.out, KRF.out, O0F.out, O1F.out, fun y hy => ⟨⟨by have := fb0.out y hy; omega, by have := fb0.out y hy; simp only [size_setCell]; omega⟩, by have := fb0.out y hy; omega, fun hy2 => by have := fb0.out y hy; have := fb1.out y hy2; omega⟩, fun y hy => ⟨⟨by have := fb1.out y hy; omega, by have := fb1.out y hy; simp only [size_setCell]; omega⟩, by have := fb1.out y hy; omega⟩, BF.out⟩
      · refine stepT_mk rfl (fun K hK => ?_)
        go_simp
        have b37 : Below Y27.heap.size Y27 (Y27.alloc (.cells #[.slice none 0 0, .slice none 0 0, .slice none 0 0, .slice none 0 0] 35)) := (Below.refl _ _).alloc (Nat.le_refl _) _
        have e37 : Hid ((Y27.alloc (.cells #[.slice none 0 0, .slice none 0 0, .slice none 0 0, .slice none 0 0] 35)).heap[Y27.heap.size]? = some (.cells #[.slice none 0 0, .slice none 0 0, .slice none 0 0, .slice none 0 0] 35 (0, 0))) := blkN Y27 _ _
        have zz37 : Y27.heap.size + 1 ≤ (Y27.alloc (.cells #[.slice none 0 0, .slice none 0 0, .slice none 0 0, .slice none 0 0] 35)).heap.size := by simp
        refine hK.out _ _ (⟨(bat (BB27.out.trans (b37.mono (by omega))) bp _ hbp).trans P0.out, (bat (BB27.out.trans (b37.mono (by omega))) bp _ hbp).trans P1.out⟩) ?_
        clear hK K
        (try simp only [Act.put, List.setIfInBounds_toArray, List.set_cons_zero, List.set_cons_succ])
        generalize (Y27.alloc (.cells #[.slice none 0 0, .slice none 0 0, .slice none 0 0, .slice none 0 0] 35)) = Y37 at *
        have BB37 := Lib.hid (BB27.out.trans (b37.mono (by omega)))
        have KR37 := Lib.hid (blkB KR27.out b37 (by omega))
        have er37_6 := Lib.hid (ownsRow_frame (w' := Y37) e27.out (fun b hb => by have e_ : Y.heap.size = b := (by simpa [Value.ownBlock] using hb); rw [← e_]; exact b37.block _ (by omega)))
        have bs37 : Y27.heap.size ≤ Y37.heap.size := b37.size
        clear b37
        refine wpTree_one ?_
        refine stepT_mk rfl (fun K hK => ?_)
        go_simp
        have b38 : Below Y37.heap.size Y37 (Y37.alloc (.cells #[] 62)) := (Below.refl _ _).alloc (Nat.le_refl _) _
        have e38 : Hid ((Y37.alloc (.cells #[] 62)).ownsRow Y37.heap.size 62 4 (.slice (some ⟨Y37.heap.size, 0, none⟩) 0 0) 0 []) := own_emptyK Y37 62 4
        have zz38 : Y37.heap.size + 1 ≤ (Y37.alloc (.cells #[] 62)).heap.size := by simp
        refine hK.out _ _ (⟨(bat (BB37.out.trans (b38.mono (by omega))) bp _ hbp).trans P0.out, (bat (BB37.out.trans (b38.mono (by omega))) bp _ hbp).trans P1.out⟩) ?_
        clear hK K
        (try simp only [Act.put, List.setIfInBounds_toArray, List.set_cons_zero, List.set_cons_succ])
        generalize (Y37.alloc (.cells #[] 62)) = Y38 at *
        have BB38 := Lib.hid (BB37.out.trans (b38.mono (by omega)))
        have KR38 := Lib.hid (blkB KR37.out b38 (by omega))
        have kh38 := Lib.hid (blkB e37.out b38 (by omega))
        have er38_6 := Lib.hid (ownsRow_frame (w' := Y38) er37_6.out (fun b hb => by have e_ : Y.heap.size = b := (by simpa [Value.ownBlock] using hb); rw [← e_]; exact b38.block _ (by omega)))
        have bs38 : Y37.heap.size ≤ Y38.heap.size := b38.size
        clear b38
        refine wpTree_one ?_
        refine stepT_mk rfl (fun K hK => ?_)
        refine wp_append_any _ (.tmp 6) (.tmp 10) _ rfl Y37.heap.size 62 iS _ 4 48 Tryz.underlying30 hS0 hS1 hS2 hS3 rfl (by omega) (.slice (some ⟨Y37.heap.size, 0, none⟩) 0 0) 0 [] rfl e38.out w.heap.size A0 n.sites.length C0 x0 rfl (DS0.out.below BB38.out) ON0.out (by simp only [maxLen]; omega) (by omega) (by omega) ?_
        intro v39_ Y39 hown hg hat
        simp only [Nat.zero_add, List.nil_append] at hown
        have bs39 : Y38.heap.size ≤ Y39.heap.size := hg.size
        have b39 : Below Y37.heap.size Y38 Y39 := (Below.refl _ _).grown hg (by omega) (fun k hk => by simp [Value.ownBlock] at hk; omega)
        have kp39 : Hid (∀ b, b < Y38.heap.size → b ≠ Y37.heap.size → Y39.heap[b]? = Y38.heap[b]?) := fun b hb hne => hg.block b hb (fun e => hne (by simpa [Value.ownBlock] using e))
        obtain ⟨f0, of_, if_, df_⟩ := (grow_Site hown XS0.out).toOwnB (lo := Y37.heap.size) (by decide) In.nil (Nat.le_refl _)
        obtain ⟨a0, c0, ev, -⟩ := ownsRow_slice hown
        subst ev
        have fb0 : Hid (∀ y ∈ f0, y = Y37.heap.size ∨ (Y38.heap.size ≤ y ∧ y < Y39.heap.size)) := fun y hy => by
          rcases df_ y hy with h | h
          · rcases hat with e | e
            · rw [e] at h; left; simpa [Value.ownBlock] using h.symm
            · rw [e] at h; injection h with h; exact Or.inr ⟨by omega, (if_ y hy).2⟩
          · simp at h
        have of0_39 := Lib.hid of_
        have ii0 := if_
        clear hown hg hat of_ if_ df_
        refine hK.out _ _ (⟨(bat (BB38.out.trans (b39.mono (by omega))) bp _ hbp).trans P0.out, (bat (BB38.out.trans (b39.mono (by omega))) bp _ hbp).trans P1.out⟩) ?_
        clear hK K
        (try simp only [Act.put, List.setIfInBounds_toArray, List.set_cons_zero, List.set_cons_succ])
        have BB39 := Lib.hid (BB38.out.trans (b39.mono (by omega)))
        have KR39 := Lib.hid ((kp39.out w.heap.size (by omega) (by omega)).trans KR38.out)
        have kh39 := Lib.hid ((kp39.out Y27.heap.size (by omega) (by omega)).trans kh38.out)
        have er39_6 := Lib.hid (ownsRow_frame (w' := Y39) er38_6.out (fun b hb => by have e_ : Y.heap.size = b := (by simpa [Value.ownBlock] using hb); rw [← e_]; exact kp39.out _ (by omega) (by omega)))
        clear b39
        refine wpTree_one ?_
        refine stepT_mk rfl (fun K hK => ?_)
        refine wp_append_any _ (.tmp 12) (.tmp 16) _ rfl Y.heap.size 49 iT _ 9 112 Tryz.underlying31 hT0 hT1 hT2 hT3 rfl (by omega) (.slice (some ⟨Y.heap.size, 0, none⟩) 0 0) 0 [] rfl er39_6.out w.heap.size A1 n.sectors.length C1 x1 rfl (DS1.out.below BB39.out) ON1.out (by simp only [maxLen]; omega) (by omega) (by omega) ?_
        intro v40_ Y40 hown hg hat
        simp only [Nat.zero_add, List.nil_append] at hown
        have bs40 : Y39.heap.size ≤ Y40.heap.size := hg.size
        have b40 : Below Y.heap.size Y39 Y40 := (Below.refl _ _).grown hg (by omega) (fun k hk => by simp [Value.ownBlock] at hk; omega)
        have kp40 : Hid (∀ b, b < Y39.heap.size → b ≠ Y.heap.size → Y40.heap[b]? = Y39.heap[b]?) := fun b hb hne => hg.block b hb (fun e => hne (by simpa [Value.ownBlock] using e))
        obtain ⟨f1, of_, if_, df_⟩ := (grow_Sector hown XS1.out).toOwnB (lo := Y.heap.size) (by decide) In.nil (Nat.le_refl _)
        obtain ⟨a1, c1, ev, -⟩ := ownsRow_slice hown
        subst ev
        have fb1 : Hid (∀ y ∈ f1, y = Y.heap.size ∨ (Y39.heap.size ≤ y ∧ y < Y40.heap.size)) := fun y hy => by
          rcases df_ y hy with h | h
          · rcases hat with e | e
            · rw [e] at h; left; simpa [Value.ownBlock] using h.symm
            · rw [e] at h; injection h with h; exact Or.inr ⟨by omega, (if_ y hy).2⟩
          · simp at h
        have of1_40 := Lib.hid of_
        have ii1 := if_
        clear hown hg hat of_ if_ df_
        refine hK.out _ _ (⟨(bat (BB39.out.trans (b40.mono (by omega))) bp _ hbp).trans P0.out, (bat (BB39.out.trans (b40.mono (by omega))) bp _ hbp).trans P1.out⟩) ?_
        clear hK K
        (try simp only [Act.put, List.setIfInBounds_toArray, List.set_cons_zero, List.set_cons_succ])
        have BB40 := Lib.hid (BB39.out.trans (b40.mono (by omega)))
        have KR40 := Lib.hid ((kp40.out w.heap.size (by omega) (by omega)).trans KR39.out)
        have kh40 := Lib.hid ((kp40.out Y27.heap.size (by omega) (by omega)).trans kh39.out)
        have of0_40 := Lib.hid (of0_39.out.frame (fun b hb => kp40.out b (by have := fb0.out b hb; omega) (by have := fb0.out b hb; omega)))
        clear b40
        refine wpTree_read (v := ?_) rfl (fun _ _ _ h => h) ?_ ?_
        rotate_left
        · (intro W hSW; (try dsimp only at hSW); (go_simp <;> with_reducible rfl))
        (try simp only [Act.put, List.setIfInBounds_toArray, List.set_cons_zero, List.set_cons_succ])
        refine wpTree_nil ?_
        simp only [List.drop_succ_cons, List.drop_zero]
        obtain ⟨g0, g1, g2, g3⟩ := blk4 kh40.out
        have fz := blkF kh40.out
        have kf_ : ((((Y40.setCell ⟨Y27.heap.size, 0, none⟩ (.slice a0 n.sites.length c0)).setCell ⟨Y27.heap.size, 1, none⟩ (.slice a1 n.sectors.length c1)).setCell ⟨Y27.heap.size, 2, none⟩ (.slice none 0 0)).setCell ⟨Y27.heap.size, 3, none⟩ (.slice none 0 0)).heap[Y27.heap.size]? = some (.cells #[.slice a0 n.sites.length c0, .slice a1 n.sectors.length c1, .slice none 0 0, .slice none 0 0] 35 (0, 0)) := by
          have := blkS (blkS (blkS (blkS kh40.out 0 (.slice a0 n.sites.length c0)) 1 (.slice a1 n.sectors.length c1)) 2 (.slice none 0 0)) 3 (.slice none 0 0)
          simpa using this
        have kf := Lib.hid kf_
        clear kf_
        have BF := Lib.hid (((((BB40.out).setCell (p := ⟨Y27.heap.size, 0, none⟩) (by show w.heap.size ≤ Y27.heap.size; omega) (.slice a0 n.sites.length c0)).setCell (p := ⟨Y27.heap.size, 1, none⟩) (by show w.heap.size ≤ Y27.heap.size; omega) (.slice a1 n.sectors.length c1)).setCell (p := ⟨Y27.heap.size, 2, none⟩) (by show w.heap.size ≤ Y27.heap.size; omega) (.slice none 0 0)).setCell (p := ⟨Y27.heap.size, 3, none⟩) (by show w.heap.size ≤ Y27.heap.size; omega) (.slice none 0 0))
        have O0F := Lib.hid (((((of0_40.out).setFar (p := ⟨Y27.heap.size, 0, none⟩) (fun e => by have := fb0.out _ e; simp only at this; omega) (.slice a0 n.sites.length c0)).setFar (p := ⟨Y27.heap.size, 1, none⟩) (fun e => by have := fb0.out _ e; simp only at this; omega) (.slice a1 n.sectors.length c1)).setFar (p := ⟨Y27.heap.size, 2, none⟩) (fun e => by have := fb0.out _ e; simp only at this; omega) (.slice none 0 0)).setFar (p := ⟨Y27.heap.size, 3, none⟩) (fun e => by have := fb0.out _ e; simp only at this; omega) (.slice none 0 0))
        have O1F := Lib.hid (((((of1_40.out).setFar (p := ⟨Y27.heap.size, 0, none⟩) (fun e => by have := fb1.out _ e; simp only at this; omega) (.slice a0 n.sites.length c0)).setFar (p := ⟨Y27.heap.size, 1, none⟩) (fun e => by have := fb1.out _ e; simp only at this; omega) (.slice a1 n.sectors.length c1)).setFar (p := ⟨Y27.heap.size, 2, none⟩) (fun e => by have := fb1.out _ e; simp only at this; omega) (.slice none 0 0)).setFar (p := ⟨Y27.heap.size, 3, none⟩) (fun e => by have := fb1.out _ e; simp only at this; omega) (.slice none 0 0))
        have KRF := Lib.hid (blkO (blkO (blkO (blkO (KR40.out) (p := ⟨Y27.heap.size, 0, none⟩) (by show w.heap.size ≠ Y27.heap.size; omega) (.slice a0 n.sites.length c0)) (p := ⟨Y27.heap.size, 1, none⟩) (by show w.heap.size ≠ Y27.heap.size; omega) (.slice a1 n.sectors.length c1)) (p := ⟨Y27.heap.size, 2, none⟩) (by show w.heap.size ≠ Y27.heap.size; omega) (.slice none 0 0)) (p := ⟨Y27.heap.size, 3, none⟩) (by show w.heap.size ≠ Y27.heap.size; omega) (.slice none 0 0))
        go_wp2_with fail
        go_meet
        exact ⟨_, a0, c0, a1, c1, f0, f1, rfl, by omega, by simp only [size_setCell]; omega, kf.out, KRF.out, O0F.out, O1F.out, fun y hy => ⟨⟨by have := fb0.out y hy; omega, by have := fb0.out y hy; simp only [size_setCell]; omega⟩, by have := fb0.out y hy; omega, fun hy2 => by have := fb0.out y hy; have := fb1.out y hy2; omega⟩, fun y hy => ⟨⟨by have := fb1.out y hy; omega, by have := fb1.out y hy; simp only [size_setCell]; omega⟩, by have := fb1.out y hy; omega⟩, BF.out⟩
    · refine stepT_mk rfl (fun K hK => ?_)
      go_simp
      have b41 : Below Y.heap.size Y (Y.alloc (.cells #[.slice none 0 0, .slice none 0 0, .slice none 0 0, .slice none 0 0] 35)) := (Below.refl _ _).alloc (Nat.le_refl _) _
      have e41 : Hid ((Y.alloc (.cells #[.slice none 0 0, .slice none 0 0, .slice none 0 0, .slice none 0 0] 35)).heap[Y.heap.size]? = some (.cells #[.slice none 0 0, .slice none 0 0, .slice none 0 0, .slice none 0 0] 35 (0, 0))) := blkN Y _ _
      have zz41 : Y.heap.size + 1 ≤ (Y.alloc (.cells #[.slice none 0 0, .slice none 0 0, .slice none 0 0, .slice none 0 0] 35)).heap.size := by simp
      refine hK.out _ _ (⟨(bat (BB0.out.trans (b41.mono (by omega))) bp _ hbp).trans P0.out, (bat (BB0.out.trans (b41.mono (by omega))) bp _ hbp).trans P1.out⟩) ?_
      clear hK K
      (try simp only [Act.put, List.setIfInBounds_toArray, List.set_cons_zero, List.set_cons_succ])
      generalize (Y.alloc (.cells #[.slice none 0 0, .slice none 0 0, .slice none 0 0, .slice none 0 0] 35)) = Y41 at *
      have BB41 := Lib.hid (BB0.out.trans (b41.mono (by omega)))
      have KR41 := Lib.hid (blkB KR0.out b41 (by omega))
      have bs41 : Y.heap.size ≤ Y41.heap.size := b41.size
      clear b41
      refine wpTree_two ?_ ?_
      · refine stepT_mk rfl (fun K hK => ?_)
        go_simp
        have b42 : Below Y41.heap.size Y41 (Y41.alloc (.cells #[] 62)) := (Below.refl _ _).alloc (Nat.le_refl _) _
        have e42 : Hid ((Y41.alloc (.cells #[] 62)).ownsRow Y41.heap.size 62 4 (.slice (some ⟨Y41.heap.size, 0, none⟩) 0 0) 0 []) := own_emptyK Y41 62 4
        have zz42 : Y41.heap.size + 1 ≤ (Y41.alloc (.cells #[] 62)).heap.size := by simp
        refine hK.out _ _ (⟨(bat (BB41.out.trans (b42.mono (by omega))) bp _ hbp).trans P0.out, (bat (BB41.out.trans (b42.mono (by omega))) bp _ hbp).trans P1.out⟩) ?_
        clear hK K
        (try simp only [Act.put, List.setIfInBounds_toArray, List.set_cons_zero, List.set_cons_succ])
        generalize (Y41.alloc (.cells #[] 62)) = Y42 at *
        have BB42 := Lib.hid (BB41.out.trans (b42.mono (by omega)))
        have KR42 := Lib.hid (blkB KR41.out b42 (by omega))
        have kh42 := Lib.hid (blkB e41.out b42 (by omega))
        have bs42 : Y41.heap.size ≤ Y42.heap.size := b42.size
        clear b42
        refine wpTree_two ?_ ?_
        · refine stepT_mk rfl (fun K hK => ?_)
          refine wp_append_any _ (.tmp 6) (.tmp 10) _ rfl Y41.heap.size 62 iS _ 4 48 Tryz.underlying30 hS0 hS1 hS2 hS3 rfl (by omega) (.slice (some ⟨Y41.heap.size, 0, none⟩) 0 0) 0 [] rfl e42.out w.heap.size A0 n.sites.length C0 x0 rfl (DS0.out.below BB42.out) ON0.out (by simp only [maxLen]; omega) (by omega) (by omega) ?_
          intro v43_ Y43 hown hg hat
          simp only [Nat.zero_add, List.nil_append] at hown
          have bs43 : Y42.heap.size ≤ Y43.heap.size := hg.size
          have b43 : Below Y41.heap.size Y42 Y43 := (Below.refl _ _).grown hg (by omega) (fun k hk => by simp [Value.ownBlock] at hk; omega)
          have kp43 : Hid (∀ b, b < Y42.heap.size → b ≠ Y41.heap.size → Y43.heap[b]? = Y42.heap[b]?) := fun b hb hne => hg.block b hb (fun e => hne (by simpa [Value.ownBlock] using e))
          obtain ⟨f0, of_, if_, df_⟩ := (grow_Site hown XS0.out).toOwnB (lo := Y41.heap.size) (by decide) In.nil (Nat.le_refl _)
          obtain ⟨a0, c0, ev, -⟩ := ownsRow_slice hown
          subst ev
          have fb0 : Hid (∀ y ∈ f0, y = Y41.heap.size ∨ (Y42.heap.size ≤ y ∧ y < Y43.heap.size)) := fun y hy => by
            rcases df_ y hy with h | h
            · rcases hat with e | e
              · rw [e] at h; left; simpa [Value.ownBlock] using h.symm
              · rw [e] at h; injection h with h; exact Or.inr ⟨by omega, (if_ y hy).2⟩
            · simp at h
          have of0_43 := Lib.hid of_
          have ii0 := if_
          clear hown hg hat of_ if_ df_
          refine hK.out _ _ (⟨(bat (BB42.out.trans (b43.mono (by omega))) bp _ hbp).trans P0.out, (bat (BB42.out.trans (b43.mono (by omega))) bp _ hbp).trans P1.out⟩) ?_
          clear hK K
          (try simp only [Act.put, List.setIfInBounds_toArray, List.set_cons_zero, List.set_cons_succ])
          have BB43 := Lib.hid (BB42.out.trans (b43.mono (by omega)))
          have KR43 := Lib.hid ((kp43.out w.heap.size (by omega) (by omega)).trans KR42.out)
          have kh43 := Lib.hid ((kp43.out Y.heap.size (by omega) (by omega)).trans kh42.out)
          clear b43
          refine wpTree_one ?_
          refine stepT_mk rfl (fun K hK => ?_)
          go_simp
          have b44 : Below Y43.heap.size Y43 (Y43.alloc (.cells #[] 49)) := (Below.refl _ _).alloc (Nat.le_refl _) _
          have e44 : Hid ((Y43.alloc (.cells #[] 49)).ownsRow Y43.heap.size 49 9 (.slice (some ⟨Y43.heap.size, 0, none⟩) 0 0) 0 []) := own_emptyK Y43 49 9
          have zz44 : Y43.heap.size + 1 ≤ (Y43.alloc (.cells #[] 49)).heap.size := by simp
          refine hK.out _ _ (⟨(bat (BB43.out.trans (b44.mono (by omega))) bp _ hbp).trans P0.out, (bat (BB43.out.trans (b44.mono (by omega))) bp _ hbp).trans P1.out⟩) ?_
          clear hK K
          (try simp only [Act.put, List.setIfInBounds_toArray, List.set_cons_zero, List.set_cons_succ])
          generalize (Y43.alloc (.cells #[] 49)) = Y44 at *
          have BB44 := Lib.hid (BB43.out.trans (b44.mono (by omega)))
          have KR44 := Lib.hid (blkB KR43.out b44 (by omega))
          have kh44 := Lib.hid (blkB kh43.out b44 (by omega))
          have of0_44 := Lib.hid (of0_43.out.frame (fun b hb => b44.block b (by have := fb0.out b hb; omega)))
          have bs44 : Y43.heap.size ≤ Y44.heap.size := b44.size
          clear b44
          refine wpTree_one ?_
          refine stepT_mk rfl (fun K hK => ?_)
          refine wp_append_any _ (.tmp 12) (.tmp 16) _ rfl Y43.heap.size 49 iT _ 9 112 Tryz.underlying31 hT0 hT1 hT2 hT3 rfl (by omega) (.slice (some ⟨Y43.heap.size, 0, none⟩) 0 0) 0 [] rfl e44.out w.heap.size A1 n.sectors.length C1 x1 rfl (DS1.out.below BB44.out) ON1.out (by simp only [maxLen]; omega) (by omega) (by omega) ?_
          intro v45_ Y45 hown hg hat
          simp only [Nat.zero_add, List.nil_append] at hown
          have bs45 : Y44.heap.size ≤ Y45.heap.size := hg.size
          have b45 : Below Y43.heap.size Y44 Y45 := (Below.refl _ _).grown hg (by omega) (fun k hk => by simp [Value.ownBlock] at hk; omega)
          have kp45 : Hid (∀ b, b < Y44.heap.size → b ≠ Y43.heap.size → Y45.heap[b]? = Y44.heap[b]?) := fun b hb hne => hg.block b hb (fun e => hne (by simpa [Value.ownBlock] using e))
          obtain ⟨f1, of_, if_, df_⟩ := (grow_Sector hown XS1.out).toOwnB (lo := Y43.heap.size) (by decide) In.nil (Nat.le_refl _)
          obtain ⟨a1, c1, ev, -⟩ := ownsRow_slice hown
          subst ev
          have fb1 : Hid (∀ y ∈ f1, y = Y43.heap.size ∨ (Y44.heap.size ≤ y ∧ y < Y45.heap.size)) := fun y hy => by
            rcases df_ y hy with h | h
            · rcases hat with e | e
              · rw [e] at h; left; simpa [Value.ownBlock] using h.symm
              · rw [e] at h; injection h with h; exact Or.inr ⟨by omega, (if_ y hy).2⟩
            · simp at h
          have of1_45 := Lib.hid of_
          have ii1 := if_
          clear hown hg hat of_ if_ df_
          refine hK.out _ _ (⟨(bat (BB44.out.trans (b45.mono (by omega))) bp _ hbp).trans P0.out, (bat (BB44.out.trans (b45.mono (by omega))) bp _ hbp).trans P1.out⟩) ?_
          clear hK K
          (try simp only [Act.put, List.setIfInBounds_toArray, List.set_cons_zero, List.set_cons_succ])
          have BB45 := Lib.hid (BB44.out.trans (b45.mono (by omega)))
          have KR45 := Lib.hid ((kp45.out w.heap.size (by omega) (by omega)).trans KR44.out)
          have kh45 := Lib.hid ((kp45.out Y.heap.size (by omega) (by omega)).trans kh44.out)
          have of0_45 := Lib.hid (of0_44.out.frame (fun b hb => kp45.out b (by have := fb0.out b hb; omega) (by have := fb0.out b hb; omega)))
          clear b45
          refine wpTree_read (v := ?_) rfl (fun _ _ _ h => h) ?_ ?_
          rotate_left
          · (intro W hSW; (try dsimp only at hSW); (go_simp <;> with_reducible rfl))
          (try simp only [Act.put, List.setIfInBounds_toArray, List.set_cons_zero, List.set_cons_succ])
          refine wpTree_nil ?_
          simp only [List.drop_succ_cons, List.drop_zero]
          obtain ⟨g0, g1, g2, g3⟩ := blk4 kh45.out
          have fz := blkF kh45.out
          have kf_ : ((((Y45.setCell ⟨Y.heap.size, 0, none⟩ (.slice a0 n.sites.length c0)).setCell ⟨Y.heap.size, 1, none⟩ (.slice a1 n.sectors.length c1)).setCell ⟨Y.heap.size, 2, none⟩ (.slice none 0 0)).setCell ⟨Y.heap.size, 3, none⟩ (.slice none 0 0)).heap[Y.heap.size]? = some (.cells #[.slice a0 n.sites.length c0, .slice a1 n.sectors.length c1, .slice none 0 0, .slice none 0 0] 35 (0, 0)) := by
            have := blkS (blkS (blkS (blkS kh45.out 0 (.slice a0 n.sites.length c0)) 1 (.slice a1 n.sectors.length c1)) 2 (.slice none 0 0)) 3 (.slice none 0 0)
            simpa using this
          have kf := Lib.hid kf_
          clear kf_
          have BF := Lib.hid (((((BB45.out).setCell (p := ⟨Y.heap.size, 0, none⟩) (by show w.heap.size ≤ Y.heap.size; omega) (.slice a0 n.sites.length c0)).setCell (p := ⟨Y.heap.size, 1, none⟩) (by show w.heap.size ≤ Y.heap.size; omega) (.slice a1 n.sectors.length c1)).setCell (p := ⟨Y.heap.size, 2, none⟩) (by show w.heap.size ≤ Y.heap.size; omega) (.slice none 0 0)).setCell (p := ⟨Y.heap.size, 3, none⟩) (by show w.heap.size ≤ Y.heap.size; omega) (.slice none 0 0))
          have O0F := Lib.hid (((((of0_45.out).setFar (p := ⟨Y.heap.size, 0, none⟩) (fun e => by have := fb0.out _ e; simp only at this; omega) (.slice a0 n.sites.length c0)).setFar (p := ⟨Y.heap.size, 1, none⟩) (fun e => by have := fb0.out _ e; simp only at this; omega) (.slice a1 n.sectors.length c1)).setFar (p := ⟨Y.heap.size, 2, none⟩) (fun e => by have := fb0.out _ e; simp only at this; omega) (.slice none 0 0)).setFar (p := ⟨Y.heap.size, 3, none⟩) (fun e => by have := fb0.out _ e; simp only at this; omega) (.slice none 0 0))
          have O1F := Lib.hid (((((of1_45.out).setFar (p := ⟨Y.heap.size, 0, none⟩) (fun e => by have := fb1.out _ e; simp only at this; omega) (.slice a0 n.sites.length c0)).setFar (p := ⟨Y.heap.size, 1, none⟩) (fun e => by have := fb1.out _ e; simp only at this; omega) (.slice a1 n.sectors.length c1)).setFar (p := ⟨Y.heap.size, 2, none⟩) (fun e => by have := fb1.out _ e; simp only at this; omega) (.slice none 0 0)).setFar (p := ⟨Y.heap.size, 3, none⟩) (fun e => by have := fb1.out _ e; simp only at this; omega) (.slice none 0 0))
          have KRF := Lib.hid (blkO (blkO (blkO (blkO (KR45.out) (p := ⟨Y.heap.size, 0, none⟩) (by show w.heap.size ≠ Y.heap.size; omega) (.slice a0 n.sites.length c0)) (p := ⟨Y.heap.size, 1, none⟩) (by show w.heap.size ≠ Y.heap.size; omega) (.slice a1 n.sectors.length c1)) (p := ⟨Y.heap.size, 2, none⟩) (by show w.heap.size ≠ Y.heap.size; omega) (.slice none 0 0)) (p := ⟨Y.heap.size, 3, none⟩) (by show w.heap.size ≠ Y.heap.size; omega) (.slice none 0 0))
          go_wp2_with fail
          go_meet
          exact ⟨_, a0, c0, a1, c1, f0, f1, rfl, by omega, by simp only [size_setCell]; omega, kf.out, KRF.out, O0F.out, O1F.out, fun y hy => ⟨⟨by have := fb0.out y hy; omega, by have := fb0.out y hy; simp only [size_setCell]; omega⟩, by have := fb0.out y hy; omega, fun hy2 => by have := fb0.out y hy; have := fb1.out y hy2; omega⟩, fun y hy => ⟨⟨by have := fb1.out y hy; omega, by have := fb1.out y hy; simp only [size_setCell]; omega⟩, by have := fb1.out y hy; omega⟩, BF.out⟩
        · refine stepT_mk rfl (fun K hK => ?_)
          go_simp
          have b46 : Below Y42.heap.size Y42 (Y42.alloc (.cells #[] 49)) := (Below.refl _ _).alloc (Nat.le_refl _) _
          have e46 : Hid ((Y42.alloc (.cells #[] 49)).ownsRow Y42.heap.size 49 9 (.slice (some ⟨Y42.heap.size, 0, none⟩) 0 0) 0 []) := own_emptyK Y42 49 9
          have zz46 : Y42.heap.size + 1 ≤ (Y42.alloc (.cells #[] 49)).heap.size := by simp
          refine hK.out _ _ (⟨(bat (BB42.out.trans (b46.mono (by omega))) bp _ hbp).trans P0.out, (bat (BB42.out.trans (b46.mono (by omega))) bp _ hbp).trans P1.out⟩) ?_
          clear hK K
          (try simp only [Act.put, List.setIfInBounds_toArray, List.set_cons_zero, List.set_cons_succ])
          generalize (Y42.alloc (.cells #[] 49)) = Y46 at *
          have BB46 := Lib.hid (BB42.out.trans (b46.mono (by omega)))
          have KR46 := Lib.hid (blkB KR42.out b46 (by omega))
          have kh46 := Lib.hid (blkB kh42.out b46 (by omega))
          have er46_0 := Lib.hid (ownsRow_frame (w' := Y46) e42.out (fun b hb => by have e_ : Y41.heap.size = b := (by simpa [Value.ownBlock] using hb); rw [← e_]; exact b46.block _ (by omega)))
          have bs46 : Y42.heap.size ≤ Y46.heap.size := b46.size
          clear b46
          refine wpTree_one ?_
          refine stepT_mk rfl (fun K hK => ?_)
          refine wp_append_any _ (.tmp 6) (.tmp 10) _ rfl Y41.heap.size 62 iS _ 4 48 Tryz.underlying30 hS0 hS1 hS2 hS3 rfl (by omega) (.slice (some ⟨Y41.heap.size, 0, none⟩) 0 0) 0 [] rfl er46_0.out w.heap.size A0 n.sites.length C0 x0 rfl (DS0.out.below BB46.out) ON0.out (by simp only [maxLen]; omega) (by omega) (by omega) ?_
          intro v47_ Y47 hown hg hat
          simp only [Nat.zero_add, List.nil_append] at hown
          have bs47 : Y46.heap.size ≤ Y47.heap.size := hg.size
          have b47 : Below Y41.heap.size Y46 Y47 := (Below.refl _ _).grown hg (by omega) (fun k hk => by simp [Value.ownBlock] at hk; omega)
          have kp47 : Hid (∀ b, b < Y46.heap.size → b ≠ Y41.heap.size → Y47.heap[b]? = Y46.heap[b]?) := fun b hb hne => hg.block b hb (fun e => hne (by simpa [Value.ownBlock] using e))
          obtain ⟨f0, of_, if_, df_⟩ := (grow_Site hown XS0.out).toOwnB (lo := Y41.heap.size) (by decide) In.nil (Nat.le_refl _)
          obtain ⟨a0, c0, ev, -⟩ := ownsRow_slice hown
          subst ev
          have fb0 : Hid (∀ y ∈ f0, y = Y41.heap.size ∨ (Y46.heap.size ≤ y ∧ y < Y47.heap.size)) := fun y hy => by
            rcases df_ y hy with h | h
            · rcases hat with e | e
              · rw [e] at h; left; simpa [Value.ownBlock] using h.symm
              · rw [e] at h; injection h with h; exact Or.inr ⟨by omega, (if_ y hy).2⟩
            · simp at h
          have of0_47 := Lib.hid of_
          have ii0 := if_
          clear hown hg hat of_ if_ df_
          refine hK.out _ _ (⟨(bat (BB46.out.trans (b47.mono (by omega))) bp _ hbp).trans P0.out, (bat (BB46.out.trans (b47.mono (by omega))) bp _ hbp).trans P1.out⟩) ?_
          clear hK K
          (try simp only [Act.put, List.setIfInBounds_toArray, List.set_cons_zero, List.set_cons_succ])
          have BB47 := Lib.hid (BB46.out.trans (b47.mono (by omega)))
          have KR47 := Lib.hid ((kp47.out w.heap.size (by omega) (by omega)).trans KR46.out)
          have kh47 := Lib.hid ((kp47.out Y.heap.size (by omega) (by omega)).trans kh46.out)
          have er47_6 := Lib.hid (ownsRow_frame (w' := Y47) e46.out (fun b hb => by have e_ : Y42.heap.size = b := (by simpa [Value.ownBlock] using hb); rw [← e_]; exact kp47.out _ (by omega) (by omega)))
          clear b47
          refine wpTree_one ?_
          refine stepT_mk rfl (fun K hK => ?_)
          refine wp_append_any _ (.tmp 12) (.tmp 16) _ rfl Y42.heap.size 49 iT _ 9 112 Tryz.underlying31 hT0 hT1 hT2 hT3 rfl (by omega) (.slice (some ⟨Y42.heap.size, 0, none⟩) 0 0) 0 [] rfl er47_6.out w.heap.size A1 n.sectors.length C1 x1 rfl (DS1.out.below BB47.out) ON1.out (by simp only [maxLen]; omega) (by omega) (by omega) ?_
          intro v48_ Y48 hown hg hat
          simp only [Nat.zero_add, List.nil_append] at hown
          have bs48 : Y47.heap.size ≤ Y48.heap.size := hg.size
          have b48 : Below Y42.heap.size Y47 Y48 := (Below.refl _ _).grown hg (by omega) (fun k hk => by simp [Value.ownBlock] at hk; omega)
          have kp48 : Hid (∀ b, b < Y47.heap.size → b ≠ Y42.heap.size → Y48.heap[b]? = Y47.heap[b]?) := fun b hb hne => hg.block b hb (fun e => hne (by simpa [Value.ownBlock] using e))
          obtain ⟨f1, of_, if_, df_⟩ := (grow_Sector hown XS1.out).toOwnB (lo := Y42.heap.size) (by decide) In.nil (Nat.le_refl _)
          obtain ⟨a1, c1, ev, -⟩ := ownsRow_slice hown
          subst ev
          have fb1 : Hid (∀ y ∈ f1, y = Y42.heap.size ∨ (Y47.heap.size ≤ y ∧ y < Y48.heap.size)) := fun y hy => by
            rcases df_ y hy with h | h
            · rcases hat with e | e
              · rw [e] at h; left; simpa [Value.ownBlock] using h.symm
              · rw [e] at h; injection h with h; exact Or.inr ⟨by omega, (if_ y hy).2⟩
            · simp at h
          have of1_48 := Lib.hid of_
          have ii1 := if_
          clear hown hg hat of_ if_ df_
          refine hK.out _ _ (⟨(bat (BB47.out.trans (b48.mono (by omega))) bp _ hbp).trans P0.out, (bat (BB47.out.trans (b48.mono (by omega))) bp _ hbp).trans P1.out⟩) ?_
          clear hK K
          (try simp only [Act.put, List.setIfInBounds_toArray, List.set_cons_zero, List.set_cons_succ])
          have BB48 := Lib.hid (BB47.out.trans (b48.mono (by omega)))
          have KR48 := Lib.hid ((kp48.out w.heap.size (by omega) (by omega)).trans KR47.out)
          have kh48 := Lib.hid ((kp48.out Y.heap.size (by omega) (by omega)).trans kh47.out)
          have of0_48 := Lib.hid (of0_47.out.frame (fun b hb => kp48.out b (by have := fb0.out b hb; omega) (by have := fb0.out b hb; omega)))
          clear b48
          refine wpTree_read (v := ?_) rfl (fun _ _ _ h => h) ?_ ?_
          rotate_left
          · (intro W hSW; (try dsimp only at hSW); (go_simp <;> with_reducible rfl))
          (try simp only [Act.put, List.setIfInBounds_toArray, List.set_cons_zero, List.set_cons_succ])
          refine wpTree_nil ?_
          simp only [List.drop_succ_cons, List.drop_zero]
          obtain ⟨g0, g1, g2, g3⟩ := blk4 kh48.out
          have fz := blkF kh48.out
          have kf_ : ((((Y48.setCell ⟨Y.heap.size, 0, none⟩ (.slice a0 n.sites.length c0)).setCell ⟨Y.heap.size, 1, none⟩ (.slice a1 n.sectors.length c1)).setCell ⟨Y.heap.size, 2, none⟩ (.slice none 0 0)).setCell ⟨Y.heap.size, 3, none⟩ (.slice none 0 0)).heap[Y.heap.size]? = some (.cells #[.slice a0 n.sites.length c0, .slice a1 n.sectors.length c1, .slice none 0 0, .slice none 0 0] 35 (0, 0)) := by
            have := blkS (blkS (blkS (blkS kh48.out 0 (.slice a0 n.sites.length c0)) 1 (.slice a1 n.sectors.length c1)) 2 (.slice none 0 0)) 3 (.slice none 0 0)
            simpa using this
          have kf := Lib.hid kf_
          clear kf_
          have BF := Lib.hid (((((BB48.out).setCell (p := ⟨Y.heap.size, 0, none⟩) (by show w.heap.size ≤ Y.heap.size; omega) (.slice a0 n.sites.length c0)).setCell (p := ⟨Y.heap.size, 1, none⟩) (by show w.heap.size ≤ Y.heap.size; omega) (.slice a1 n.sectors.length c1)).setCell (p := ⟨Y.heap.size, 2, none⟩) (by show w.heap.size ≤ Y.heap.size; omega) (.slice none 0 0)).setCell (p := ⟨Y.heap.size, 3, none⟩) (by show w.heap.size ≤ Y.heap.size; omega) (.slice none 0 0))
          have O0F := Lib.hid (((((of0_48.out).setFar (p := ⟨Y.heap.size, 0, none⟩) (fun e => by have := fb0.out _ e; simp only at this; omega) (.slice a0 n.sites.length c0)).setFar (p := ⟨Y.heap.size, 1, none⟩) (fun e => by have := fb0.out _ e; simp only at this; omega) (.slice a1 n.sectors.length c1)).setFar (p := ⟨Y.heap.size, 2, none⟩) (fun e => by have := fb0.out _ e; simp only at this; omega) (.slice none 0 0)).setFar (p := ⟨Y.heap.size, 3, none⟩) (fun e => by have := fb0.out _ e; simp only at this; omega) (.slice none 0 0))
          have O1F := Lib.hid (((((of1_48.out).setFar (p := ⟨Y.heap.size, 0, none⟩) (fun e => by have := fb1.out _ e; simp only at this; omega) (.slice a0 n.sites.length c0)).setFar (p := ⟨Y.heap.size, 1, none⟩) (fun e => by have := fb1.out _ e; simp only at this; omega) (.slice a1 n.sectors.length c1)).setFar (p := ⟨Y.heap.size, 2, none⟩) (fun e => by have := fb1.out _ e; simp only at this; omega) (.slice none 0 0)).setFar (p := ⟨Y.heap.size, 3, none⟩) (fun e => by have := fb1.out _ e; simp only at this; omega) (.slice none 0 0))
          have KRF := Lib.hid (blkO (blkO (blkO (blkO (KR48.out) (p := ⟨Y.heap.size, 0, none⟩) (by show w.heap.size ≠ Y.heap.size; omega) (.slice a0 n.sites.length c0)) (p := ⟨Y.heap.size, 1, none⟩) (by show w.heap.size ≠ Y.heap.size; omega) (.slice a1 n.sectors.length c1)) (p := ⟨Y.heap.size, 2, none⟩) (by show w.heap.size ≠ Y.heap.size; omega) (.slice none 0 0)) (p := ⟨Y.heap.size, 3, none⟩) (by show w.heap.size ≠ Y.heap.size; omega) (.slice none 0 0))
          go_wp2_with fail
          go_meet
          exact ⟨_, a0, c0, a1, c1, f0, f1, rfl, by omega, by simp only [size_setCell]; omega, kf.out, KRF.out, O0F.out, O1F.out, fun y hy => ⟨⟨by have := fb0.out y hy; omega, by have := fb0.out y hy; simp only [size_setCell]; omega⟩, by have := fb0.out y hy; omega, fun hy2 => by have := fb0.out y hy; have := fb1.out y hy2; omega⟩, fun y hy => ⟨⟨by have := fb1.out y hy; omega, by have := fb1.out y hy; simp only [size_setCell]; omega⟩, by have := fb1.out y hy; omega⟩, BF.out⟩
      · refine stepT_mk rfl (fun K hK => ?_)
        go_simp
        have b49 : Below Y41.heap.size Y41 (Y41.alloc (.cells #[] 49)) := (Below.refl _ _).alloc (Nat.le_refl _) _
        have e49 : Hid ((Y41.alloc (.cells #[] 49)).ownsRow Y41.heap.size 49 9 (.slice (some ⟨Y41.heap.size, 0, none⟩) 0 0) 0 []) := own_emptyK Y41 49 9
        have zz49 : Y41.heap.size + 1 ≤ (Y41.alloc (.cells #[] 49)).heap.size := by simp
        refine hK.out _ _ (⟨(bat (BB41.out.trans (b49.mono (by omega))) bp _ hbp).trans P0.out, (bat (BB41.out.trans (b49.mono (by omega))) bp _ hbp).trans P1.out⟩) ?_
        clear hK K
        (try simp only [Act.put, List.setIfInBounds_toArray, List.set_cons_zero, List.set_cons_succ])
        generalize (Y41.alloc (.cells #[] 49)) = Y49 at *
        have BB49 := Lib.hid (BB41.out.trans (b49.mono (by omega)))
        have KR49 := Lib.hid (blkB KR41.out b49 (by omega))
        have kh49 := Lib.hid (blkB e41.out b49 (by omega))
        have bs49 : Y41.heap.size ≤ Y49.heap.size := b49.size
        clear b49
        refine wpTree_one ?_
        refine stepT_mk rfl (fun K hK => ?_)
        go_simp
        have b50 : Below Y49.heap.size Y49 (Y49.alloc (.cells #[] 62)) := (Below.refl _ _).alloc (Nat.le_refl _) _
        have e50 : Hid ((Y49.alloc (.cells #[] 62)).ownsRow Y49.heap.size 62 4 (.slice (some ⟨Y49.heap.size, 0, none⟩) 0 0) 0 []) := own_emptyK Y49 62 4
        have zz50 : Y49.heap.size + 1 ≤ (Y49.alloc (.cells #[] 62)).heap.size := by simp
        refine hK.out _ _ (⟨(bat (BB49.out.trans (b50.mono (by omega))) bp _ hbp).trans P0.out, (bat (BB49.out.trans (b50.mono (by omega))) bp _ hbp).trans P1.out⟩) ?_
        clear hK K
        (try simp only [Act.put, List.setIfInBounds_toArray, List.set_cons_zero, List.set_cons_succ])
        generalize (Y49.alloc (.cells #[] 62)) = Y50 at *
        have BB50 := Lib.hid (BB49.out.trans (b50.mono (by omega)))
        have KR50 := Lib.hid (blkB KR49.out b50 (by omega))
        have kh50 := Lib.hid (blkB kh49.out b50 (by omega))
        have er50_6 := Lib.hid (ownsRow_frame (w' := Y50) e49.out (fun b hb => by have e_ : Y41.heap.size = b := (by simpa [Value.ownBlock] using hb); rw [← e_]; exact b50.block _ (by omega)))
        have bs50 : Y49.heap.size ≤ Y50.heap.size := b50.size
        clear b50
        refine wpTree_one ?_
        refine stepT_mk rfl (fun K hK => ?_)
        refine wp_append_any _ (.tmp 6) (.tmp 10) _ rfl Y49.heap.size 62 iS _ 4 48 Tryz.underlying30 hS0 hS1 hS2 hS3 rfl (by omega) (.slice (some ⟨Y49.heap.size, 0, none⟩) 0 0) 0 [] rfl e50.out w.heap.size A0 n.sites.length C0 x0 rfl (DS0.out.below BB50.out) ON0.out (by simp only [maxLen]; omega) (by omega) (by omega) ?_
        intro v51_ Y51 hown hg hat
        simp only [Nat.zero_add, List.nil_append] at hown
        have bs51 : Y50.heap.size ≤ Y51.heap.size := hg.size
        have b51 : Below Y49.heap.size Y50 Y51 := (Below.refl _ _).grown hg (by omega) (fun k hk => by simp [Value.ownBlock] at hk; omega)
        have kp51 : Hid (∀ b, b < Y50.heap.size → b ≠ Y49.heap.size → Y51.heap[b]? = Y50.heap[b]?) := fun b hb hne => hg.block b hb (fun e => hne (by simpa [Value.ownBlock] using e))
        obtain ⟨f0, of_, if_, df_⟩ := (grow_Site hown XS0.out).toOwnB (lo := Y49.heap.size) (by decide) In.nil (Nat.le_refl _)
        obtain ⟨a0, c0, ev, -⟩ := ownsRow_slice hown
        subst ev
        have fb0 : Hid (∀ y ∈ f0, y = Y49.heap.size ∨ (Y50.heap.size ≤ y ∧ y < Y51.heap.size)) := fun y hy => by
          rcases df_ y hy with h | h
          · rcases hat with e | e
            · rw [e] at h; left; simpa [Value.ownBlock] using h.symm
            · rw [e] at h; injection h with h; exact Or.inr ⟨by omega, (if_ y hy).2⟩
          · simp at h
        have of0_51 := Lib.hid of_
        have ii0 := if_
        clear hown hg hat of_ if_ df_
        refine hK.out _ _ (⟨(bat (BB50.out.trans (b51.mono (by omega))) bp _ hbp).trans P0.out, (bat (BB50.out.trans (b51.mono (by omega))) bp _ hbp).trans P1.out⟩) ?_
        clear hK K
        (try simp only [Act.put, List.setIfInBounds_toArray, List.set_cons_zero, List.set_cons_succ])
        have BB51 := Lib.hid (BB50.out.trans (b51.mono (by omega)))
        have KR51 := Lib.hid ((kp51.out w.heap.size (by omega) (by omega)).trans KR50.out)
        have kh51 := Lib.hid ((kp51.out Y.heap.size (by omega) (by omega)).trans kh50.out)
        have er51_6 := Lib.hid (ownsRow_frame (w' := Y51) er50_6.out (fun b hb => by have e_ : Y41.heap.size = b := (by simpa [Value.ownBlock] using hb); rw [← e_]; exact kp51.out _ (by omega) (by omega)))
        clear b51
        refine wpTree_one ?_
        refine stepT_mk rfl (fun K hK => ?_)
        refine wp_append_any _ (.tmp 12) (.tmp 16) _ rfl Y41.heap.size 49 iT _ 9 112 Tryz.underlying31 hT0 hT1 hT2 hT3 rfl (by omega) (.slice (some ⟨Y41.heap.size, 0, none⟩) 0 0) 0 [] rfl er51_6.out w.heap.size A1 n.sectors.length C1 x1 rfl (DS1.out.below BB51.out) ON1.out (by simp only [maxLen]; omega) (by omega) (by omega) ?_
        intro v52_ Y52 hown hg hat
        simp only [Nat.zero_add, List.nil_append] at hown
        have bs52 : Y51.heap.size ≤ Y52.heap.size := hg.size
        have b52 : Below Y41.heap.size Y51 Y52 := (Below.refl _ _).grown hg (by omega) (fun k hk => by simp [Value.ownBlock] at hk; omega)
        have kp52 : Hid (∀ b, b < Y51.heap.size → b ≠ Y41.heap.size → Y52.heap[b]? = Y51.heap[b]?) := fun b hb hne => hg.block b hb (fun e => hne (by simpa [Value.ownBlock] using e))
        obtain ⟨f1, of_, if_, df_⟩ := (grow_Sector hown XS1.out).toOwnB (lo := Y41.heap.size) (by decide) In.nil (Nat.le_refl _)
        obtain ⟨a1, c1, ev, -⟩ := ownsRow_slice hown
        subst ev
        have fb1 : Hid (∀ y ∈ f1, y = Y41.heap.size ∨ (Y51.heap.size ≤ y ∧ y < Y52.heap.size)) := fun y hy => by
          rcases df_ y hy with h | h
          · rcases hat with e | e
            · rw [e] at h; left; simpa [Value.ownBlock] using h.symm
            · rw [e] at h; injection h with h; exact Or.inr ⟨by omega, (if_ y hy).2⟩
          · simp at h
        have of1_52 := Lib.hid of_
        have ii1 := if_
        clear hown hg hat of_ if_ df_
        refine hK.out _ _ (⟨(bat (BB51.out.trans (b52.mono (by omega))) bp _ hbp).trans P0.out, (bat (BB51.out.trans (b52.mono (by omega))) bp _ hbp).trans P1.out⟩) ?_
        clear hK K
        (try simp only [Act.put, List.setIfInBounds_toArray, List.set_cons_zero, List.set_cons_succ])
        have BB52 := Lib.hid (BB51.out.trans (b52.mono (by omega)))
        have KR52 := Lib.hid ((kp52.out w.heap.size (by omega) (by omega)).trans KR51.out)
        have kh52 := Lib.hid ((kp52.out Y.heap.size (by omega) (by omega)).trans kh51.out)
        have of0_52 := Lib.hid (of0_51.out.frame (fun b hb => kp52.out b (by have := fb0.out b hb; omega) (by have := fb0.out b hb; omega)))
        clear b52
        refine wpTree_read (v := ?_) rfl (fun _ _ _ h => h) ?_ ?_
        rotate_left
        · (intro W hSW; (try dsimp only at hSW); (go_simp <;> with_reducible rfl))
        (try simp only [Act.put, List.setIfInBounds_toArray, List.set_cons_zero, List.set_cons_succ])
        refine wpTree_nil ?_
        simp only [List.drop_succ_cons, List.drop_zero]
        obtain ⟨g0, g1, g2, g3⟩ := blk4 kh52.out
        have fz := blkF kh52.out
        have kf_ : ((((Y52.setCell ⟨Y.heap.size, 0, none⟩ (.slice a0 n.sites.length c0)).setCell ⟨Y.heap.size, 1, none⟩ (.slice a1 n.sectors.length c1)).setCell ⟨Y.heap.size, 2, none⟩ (.slice none 0 0)).setCell ⟨Y.heap.size, 3, none⟩ (.slice none 0 0)).heap[Y.heap.size]? = some (.cells #[.slice a0 n.sites.length c0, .slice a1 n.sectors.length c1, .slice none 0 0, .slice none 0 0] 35 (0, 0)) := by
          have := blkS (blkS (blkS (blkS kh52.out 0 (.slice a0 n.sites.length c0)) 1 (.slice a1 n.sectors.length c1)) 2 (.slice none 0 0)) 3 (.slice none 0 0)
          simpa using this
        have kf := Lib.hid kf_
        clear kf_
        have BF := Lib.hid (((((BB52.out).setCell (p := ⟨Y.heap.size, 0, none⟩) (by show w.heap.size ≤ Y.heap.size; omega) (.slice a0 n.sites.length c0)).setCell (p := ⟨Y.heap.size, 1, none⟩) (by show w.heap.size ≤ Y.heap.size; omega) (.slice a1 n.sectors.length c1)).setCell (p := ⟨Y.heap.size, 2, none⟩) (by show w.heap.size ≤ Y.heap.size; omega) (.slice none 0 0)).setCell (p := ⟨Y.heap.size, 3, none⟩) (by show w.heap.size ≤ Y.heap.size; omega) (.slice none 0 0))
        have O0F := Lib.hid (((((of0_52.out).setFar (p := ⟨Y.heap.size, 0, none⟩) (fun e => by have := fb0.out _ e; simp only at this; omega) (.slice a0 n.sites.length c0)).setFar (p := ⟨Y.heap.size, 1, none⟩) (fun e => by have := fb0.out _ e; simp only at this; omega) (.slice a1 n.sectors.length c1)).setFar (p := ⟨Y.heap.size, 2, none⟩) (fun e => by have := fb0.out _ e; simp only at this; omega) (.slice none 0 0)).setFar (p := ⟨Y.heap.size, 3, none⟩) (fun e => by have := fb0.out _ e; simp only at this; omega) (.slice none 0 0))
        have O1F := Lib.hid (((((of1_52.out).setFar (p := ⟨Y.heap.size, 0, none⟩) (fun e => by have := fb1.out _ e; simp only at this; omega) (.slice a0 n.sites.length c0)).setFar (p := ⟨Y.heap.size, 1, none⟩) (fun e => by have := fb1.out _ e; simp only at this; omega) (.slice a1 n.sectors.length c1)).setFar (p := ⟨Y.heap.size, 2, none⟩) (fun e => by have := fb1.out _ e; simp only at this; omega) (.slice none 0 0)).setFar (p := ⟨Y.heap.size, 3, none⟩) (fun e => by have := fb1.out _ e; simp only at this; omega) (.slice none 0 0))
        have KRF := Lib.hid (blkO (blkO (blkO (blkO (KR52.out) (p := ⟨Y.heap.size, 0, none⟩) (by show w.heap.size ≠ Y.heap.size; omega) (.slice a0 n.sites.length c0)) (p := ⟨Y.heap.size, 1, none⟩) (by show w.heap.size ≠ Y.heap.size; omega) (.slice a1 n.sectors.length c1)) (p := ⟨Y.heap.size, 2, none⟩) (by show w.heap.size ≠ Y.heap.size; omega) (.slice none 0 0)) (p := ⟨Y.heap.size, 3, none⟩) (by show w.heap.size ≠ Y.heap.size; omega) (.slice none 0 0))
        go_wp2_with fail
        go_meet
        exact ⟨_, a0, c0, a1, c1, f0, f1, rfl, by omega, by simp only [size_setCell]; omega, kf.out, KRF.out, O0F.out, O1F.out, fun y hy => ⟨⟨by have := fb0.out y hy; omega, by have := fb0.out y hy; simp only [size_setCell]; omega⟩, by have := fb0.out y hy; omega, fun hy2 => by have := fb0.out y hy; have := fb1.out y hy2; omega⟩, fun y hy => ⟨⟨by have := fb1.out y hy; omega, by have := fb1.out y hy; simp only [size_setCell]; omega⟩, by have := fb1.out y hy; omega⟩, BF.out⟩
  case rest =>
    obtain ⟨h, a0, c0, a1, c1, f0, f1, rfl, hh0, hh1, kh, kr, o0, o1, fb0, fb1, bb⟩ := hcut
    have KH8 := Lib.hid kh
    have KR8 := Lib.hid kr
    have O0_8 := Lib.hid o0
    have O1_8 := Lib.hid o1
    have F0 := Lib.hid fb0
    have F1 := Lib.hid fb1
    have BB8 := Lib.hid bb
    clear kh kr o0 o1 fb0 fb1 bb BB0 KR0 z0 DS0 DS1 XS0 XS1 ON0 ON1
    generalize wc = W8 at *
    have y8 : w.heap.size < W8.heap.size := by omega
    go_wp2
    go_loopw [4] (fun i wr => ∃ (k : Nat) (a : Option Addr) (c : Nat) (f : List Nat), k ≤ n.antennas.length ∧ i = .int .i64 k ∧ wr.heap[h]? = some (.cells #[.slice a0 n.sites.length c0, .slice a1 n.sectors.length c1, .slice a k c, .slice none 0 0] 35 (0, 0)) ∧ Grow wr W8.heap.size 120 4 (.slice a k c) k ((n.antennas.take k).flatMap DAntenna.tr) f ∧ In W8.heap.size wr.heap.size f ∧ Chg [h] W8 wr) (fun i wr => n.antennas.length - (intOf i).toNat)
    case atStart => exact ⟨0, none, 0, [], Nat.zero_le _, rfl, KH8.out, by simpa using Grow.nil, In.nil, Chg.refl _ _⟩
    case round =>
      obtain ⟨k, a, c, f, hk, rfl, hkh, hgr, hin, hch⟩ := hrel
      have zr : W8.heap.size ≤ wr.heap.size := hch.size
      have bWr : Below w.heap.size w wr := BB8.out.trans (hch.below (by omega) (by simp; omega))
      have pQ := (bat bWr bp _ hbp).trans P2.out
      have KHr := Lib.hid hkh
      have HG := Lib.hid hgr
      have HCH := Lib.hid hch
      have BWr := Lib.hid bWr
      clear hkh hgr hch bWr
      by_cases hlt : k < n.antennas.length
      · obtain ⟨b, off, eA, hbl, hat⟩ := CA.out (by omega)
        subst eA
        obtain ⟨s0, s1, ⟨u2, s2, ru2⟩, ⟨u3, s3, ru3⟩⟩ := hat k hlt
        have HO : Hid (∀ W : World, Below w.heap.size w W → Calls Tryz.prog 87 #[.pointer (some ⟨b, off + k * 4, none⟩)] W fun e w' => ∃ b2 d2 b3 d3 fp, e = .returned (.agg #[.string n.antennas[k].name, .int .i64 n.antennas[k].gain, .slice b2 n.antennas[k].horizontal.length d2, .slice b3 n.antennas[k].vertical.length d3]) ∧ Below W.heap.size W w' ∧ OwnV w' n.antennas[k].tr [.string n.antennas[k].name, .int .i64 n.antennas[k].gain, .slice b2 n.antennas[k].horizontal.length d2, .slice b3 n.antennas[k].vertical.length d3] fp ∧ In W.heap.size w'.heap.size fp) := fun W hW => l06Own_any n.antennas[k] u2 u3 b (off + k * 4) W ((ru2.below hW).mono hW.size) ((ru3.below hW).mono hW.size) (Nat.lt_of_lt_of_le hbl hW.size) ((bat hW b _ hbl).trans s0) ((bat hW b _ hbl).trans s1) ((bat hW b _ hbl).trans s2) ((bat hW b _ hbl).trans s3) (LA.out k hlt).1 (LA.out k hlt).2
        have i1 : (0 : Int) ≤ (k : Int) := by omega
        have i2 : (k : Int) < (n.antennas.length : Int) := by omega
        clear hat s0 s1 s2 s3 ru2 ru3
        have bd : Below wr.heap.size wr wr.drew := (Below.refl _ _).drew
        have KHd : Hid (wr.drew.heap[h]? = some (.cells #[.slice a0 n.sites.length c0, .slice a1 n.sectors.length c1, .slice a k c, .slice none 0 0] 35 (0, 0))) := KHr.out
        have BWd : Hid (Below w.heap.size w wr.drew) := BWr.out.drew
        have HGd := Lib.hid (HG.out.below hin bd)
        have obk : ∀ y, (Value.slice a k c).ownBlock = some y → y < wr.drew.heap.size := fun y hy => (HGd.out.block hy).2
        have OBK := Lib.hid obk
        clear obk
        have zd : wr.heap.size ≤ wr.drew.heap.size := Nat.le_refl _
        have CHd : Hid (Chg [h] W8 wr.drew) := HCH.out.drew
        have hind : In W8.heap.size wr.drew.heap.size f := hin
        go_wp2
        clear pQ KHr HG HCH BWr bd hin
        refine wp_region_ord 10 [(0, true), (1, true), (2, true), (3, true), (4, true), (5, true), (6, true), (7, true), (8, false), (9, false)] (fun W => W.cell? ⟨h, 2, none⟩ = some (.slice a k c) ∧ W.cell? ⟨bp, 2, none⟩ = some (.slice (some ⟨b, off, none⟩) n.antennas.length C2)) (by kernel_rfl) (by kernel_rfl) (⟨blkC (KHd.out) 2 rfl, (bat (BWd.out) bp _ hbp).trans P2.out⟩) (fun hHeld => ?_)
        generalize wr.drew = Y0 at *
        clear hHeld
        refine wpOrd_read (v := ?_) rfl (fun _ _ _ h => h) ?_ ?_
        rotate_left
        · (intro W hSW; (try dsimp only at hSW); (go_simp <;> with_reducible rfl))
        (try simp only [Act.put, List.setIfInBounds_toArray, List.set_cons_zero, List.set_cons_succ])
        refine wpOrd_read (v := ?_) rfl (fun _ _ _ h => h) ?_ ?_
        rotate_left
        · (intro W hSW; (try dsimp only at hSW); (go_simp <;> with_reducible rfl))
        (try simp only [Act.put, List.setIfInBounds_toArray, List.set_cons_zero, List.set_cons_succ])
        refine wpOrd_read (v := ?_) rfl (fun _ _ _ h => h) ?_ ?_
        rotate_left
        · (intro W hSW; (try dsimp only at hSW); (go_simp <;> with_reducible rfl))
        (try simp only [Act.put, List.setIfInBounds_toArray, List.set_cons_zero, List.set_cons_succ])
        refine wpOrd_read (v := ?_) rfl (fun _ _ _ h => h) ?_ ?_
        rotate_left
        · (intro W hSW; (try dsimp only at hSW); (go_simp <;> with_reducible rfl))
        (try simp only [Act.put, List.setIfInBounds_toArray, List.set_cons_zero, List.set_cons_succ])
        refine wpOrd_read (v := ?_) rfl (fun _ _ _ h => h) ?_ ?_
        rotate_left
        · (intro W hSW; (try dsimp only at hSW); (go_simp <;> with_reducible rfl))
        (try simp only [Act.put, List.setIfInBounds_toArray, List.set_cons_zero, List.set_cons_succ])
        refine wpOrd_read (v := ?_) rfl (fun _ _ _ h => h) ?_ ?_
        rotate_left
        · (intro W hSW; (try dsimp only at hSW); (go_simp <;> with_reducible rfl))
        (try simp only [Act.put, List.setIfInBounds_toArray, List.set_cons_zero, List.set_cons_succ])
        refine wpOrd_read (v := ?_) rfl (fun _ _ _ h => h) ?_ ?_
        rotate_left
        · (intro W hSW; (try dsimp only at hSW); (go_simp <;> with_reducible rfl))
        (try simp only [Act.put, List.setIfInBounds_toArray, List.set_cons_zero, List.set_cons_succ])
        refine wpOrd_read (v := ?_) rfl (fun _ _ _ h => h) ?_ ?_
        rotate_left
        · (intro W hSW; (try dsimp only at hSW); (go_simp <;> with_reducible rfl))
        (try simp only [Act.put, List.setIfInBounds_toArray, List.set_cons_zero, List.set_cons_succ])
        refine wpOrd_step rfl (fun K hK => ?_)
        go_simp
        refine (HO.out _ BWd.out).mono ?_
        rintro e Y1 ⟨b2, d2, b3, d3, fp, rfl, hb, ov, iv⟩
        refine hK.out _ _ (⟨blkC (blkB KHd.out hb (by omega)) 2 rfl, (bat (BWd.out.trans (hb.mono (by omega))) bp _ hbp).trans P2.out⟩) ?_
        clear hK K
        (try simp only [Act.put, List.setIfInBounds_toArray, List.set_cons_zero, List.set_cons_succ])
        have KH1 := Lib.hid (blkB KHd.out hb (by omega))
        have BW1 := Lib.hid (BWd.out.trans (hb.mono (by omega)))
        have G1 := Lib.hid (HGd.out.below hind hb)
        have z1 : Y0.heap.size ≤ Y1.heap.size := hb.size
        have CH1 := Lib.hid (CHd.out.thenBelow (hb.mono (by omega)))
        have OV := Lib.hid ov
        have bA : Below Y1.heap.size Y1 (Y1.alloc (.cells #[.string n.antennas[k].name, .int .i64 n.antennas[k].gain, .slice b2 n.antennas[k].horizontal.length d2, .slice b3 n.antennas[k].vertical.length d3] 120)) := (Below.refl _ _).alloc (Nat.le_refl _) _
        clear hb ov KHd BWd HGd CHd
        refine wpOrd_step rfl (fun K hK => ?_)
        go_simp
        refine hK.out _ _ (⟨blkC (blkB KH1.out bA (by omega)) 2 rfl, (bat (BW1.out.trans (bA.mono (by omega))) bp _ hbp).trans P2.out⟩) ?_
        clear hK K
        (try simp only [Act.put, List.setIfInBounds_toArray, List.set_cons_zero, List.set_cons_succ])
        clear bA
        refine wpOrd_nil ?_
        simp only [List.drop_succ_cons, List.drop_zero]
        have g_ob : ∀ y, (Value.slice a k c).ownBlock = some y → W8.heap.size ≤ y ∧ y < Y0.heap.size := fun y hy => by
          have h1 := (G1.out.block hy)
          exact ⟨h1.1, OBK.out y hy⟩
        have GOB := Lib.hid g_ob
        clear g_ob
        go_wp2_with (at_builtin; refine wpList_append1 rfl (.tmp 29) (.tmp 37) _ rfl W8.heap.size 120 iA _ 4 72 Tryz.underlying32 hA0 hA1 hA2 hA3 rfl (by omega) _ _ _ f rfl G1.out [.string n.antennas[k].name, .int .i64 n.antennas[k].gain, .slice b2 n.antennas[k].horizontal.length d2, .slice b3 n.antennas[k].vertical.length d3] n.antennas[k].tr fp rfl 1 rfl (fun u hu => by simp only [List.mem_cons, List.not_mem_nil, or_false] at hu; rcases hu with rfl | rfl | rfl | rfl <;> rfl) OV.out.rep OV.out.nd OV.out.free W8.heap.size (hind.mono (Nat.le_refl _) z1) (iv.mono (by omega) (Nat.le_refl _)) (fun y h1 h2 => by have := (iv y h1).1; have := (hind y h2).2; omega) (fun y hy h2 => by have := (iv y h2).1; have := (GOB.out y hy).2; omega) (by simp only [maxLen]; omega) (by omega) (by omega) ?_; intro v4 w2 hgn; obtain ⟨a4, c4, e4⟩ := hgn.grow.slice; subst e4; have kh2 := (hgn.keep h (by omega) (fun e => by have := (GOB.out h e).1; omega)).trans KH1.out; have KH2 := Lib.hid kh2; obtain ⟨m0, m1, m2, m3⟩ := blk4 kh2; have mz := blkF kh2; have HGN := Lib.hid hgn; clear hgn kh2)
        go_roundw
        case rel =>
          refine ⟨k + 1, a4, c4, f ++ fp, by omega, by go_num, ?_, ?_, ?_, ?_⟩
          · have := blkS KH2.out 2 (.slice a4 (k + 1) c4)
            simpa using this
          · rw [flat_take_succ DAntenna.tr n.antennas k hlt]
            exact HGN.out.grow.frame (fun y hy => Below.heap_setCell _ _ _ _ (by have := (HGN.out.grow.block hy).1; show y ≠ h; omega)) (fun y hy => Below.heap_setCell _ _ _ _ (by
              show y ≠ h
              rcases List.mem_append.1 hy with hy | hy
              · have := (hind y hy).1; omega
              · have := (iv y hy).1; omega))
          · simp only [size_setCell]
            have := HGN.out.size
            exact (hind.mono (Nat.le_refl _) (by omega)).append (iv.mono (by omega) (by omega))
          · exact (CH1.out.thenBelow HGN.out.below).setCell (by simp) _
        case measure => simp [intOf]; omega
      · obtain rfl : k = n.antennas.length := by omega
        obtain ⟨W9, ew⟩ : ∃ W : World, W = wr := ⟨_, rfl⟩
        subst ew
        rw [List.take_length] at HG
        obtain ⟨G2, OG, IG, -⟩ := HG.out.toOwnB (lo := W8.heap.size) (by decide) hin (Nat.le_refl _)
        have O2_9 := Lib.hid OG
        have KH9 := Lib.hid KHr.out
        have KR9 := Lib.hid ((HCH.out.block w.heap.size (by omega) (by simp; omega)).trans KR8.out)
        have BB9 := Lib.hid BWr.out
        have O0_9 := Lib.hid (O0_8.out.chg (lo := w.heap.size) (hi := W8.heap.size) (fun y hy => by have := F0.out y hy; omega) (Nat.le_refl _) HCH.out (fun y hy e => by have := F0.out y hy; simp at e; omega))
        have O1_9 := Lib.hid (O1_8.out.chg (lo := w.heap.size) (hi := W8.heap.size) (fun y hy => by have := F1.out y hy; omega) (Nat.le_refl _) HCH.out (fun y hy e => by have := F1.out y hy; simp at e; omega))
        have IG2 := IG
        clear OG IG hin HCH KHr BWr HG hlt KH8 KR8 BB8 O0_8 O1_8
        obtain ⟨a2, ea⟩ : ∃ x, x = a := ⟨_, rfl⟩
        obtain ⟨c2, ec⟩ : ∃ x, x = c := ⟨_, rfl⟩
        subst ea ec
        go_wp2
        clear pQ
        go_loopw [5] (fun i wr => ∃ (k : Nat) (a : Option Addr) (c : Nat) (f : List Nat), k ≤ n.radios.length ∧ i = .int .i64 k ∧ wr.heap[h]? = some (.cells #[.slice a0 n.sites.length c0, .slice a1 n.sectors.length c1, .slice a2 n.antennas.length c2, .slice a k c] 35 (0, 0)) ∧ Grow wr W9.heap.size 125 6 (.slice a k c) k ((n.radios.take k).flatMap DRadio.tr) f ∧ In W9.heap.size wr.heap.size f ∧ Chg [h] W9 wr) (fun i wr => n.radios.length - (intOf i).toNat)
        case atStart => exact ⟨0, none, 0, [], Nat.zero_le _, rfl, KH9.out, by simpa using Grow.nil, In.nil, Chg.refl _ _⟩
        case round =>
          obtain ⟨k, a, c, f, hk, rfl, hkh, hgr, hin, hch⟩ := hrel
          have zr : W9.heap.size ≤ wr.heap.size := hch.size
          have bWr : Below w.heap.size w wr := BB9.out.trans (hch.below (by omega) (by simp; omega))
          have pQ := (bat bWr bp _ hbp).trans P3.out
          have KHr := Lib.hid hkh
          have HG := Lib.hid hgr
          have HCH := Lib.hid hch
          have BWr := Lib.hid bWr
          clear hkh hgr hch bWr
          by_cases hlt : k < n.radios.length
          · obtain ⟨b, off, eA, hbl, hat⟩ := CR.out (by omega)
            subst eA
            obtain ⟨s0, s1, s2, s3, s4, ⟨u5, s5, ru5⟩⟩ := hat k hlt
            have HO : Hid (∀ W : World, Below w.heap.size w W → Calls Tryz.prog 88 #[.pointer (some ⟨b, off + k * 6, none⟩)] W fun e w' => ∃ b5 d5 fp, e = .returned (.agg #[.string n.radios[k].name, .int .i64 n.radios[k].power, .int .i64 n.radios[k].feeder, .int .i64 n.radios[k].noise, .int .i64 n.radios[k].width, .slice b5 n.radios[k].modes.length d5]) ∧ Below W.heap.size W w' ∧ OwnV w' n.radios[k].tr [.string n.radios[k].name, .int .i64 n.radios[k].power, .int .i64 n.radios[k].feeder, .int .i64 n.radios[k].noise, .int .i64 n.radios[k].width, .slice b5 n.radios[k].modes.length d5] fp ∧ In W.heap.size w'.heap.size fp) := fun W hW => l07Own_any n.radios[k] u5 b (off + k * 6) W ((ru5.below hW).mono hW.size) (Nat.lt_of_lt_of_le hbl hW.size) ((bat hW b _ hbl).trans s0) ((bat hW b _ hbl).trans s1) ((bat hW b _ hbl).trans s2) ((bat hW b _ hbl).trans s3) ((bat hW b _ hbl).trans s4) ((bat hW b _ hbl).trans s5) (LR.out k hlt)
            have i1 : (0 : Int) ≤ (k : Int) := by omega
            have i2 : (k : Int) < (n.radios.length : Int) := by omega
            clear hat s0 s1 s2 s3 s4 s5 ru5
            have bd : Below wr.heap.size wr wr.drew := (Below.refl _ _).drew
            have KHd : Hid (wr.drew.heap[h]? = some (.cells #[.slice a0 n.sites.length c0, .slice a1 n.sectors.length c1, .slice a2 n.antennas.length c2, .slice a k c] 35 (0, 0))) := KHr.out
            have BWd : Hid (Below w.heap.size w wr.drew) := BWr.out.drew
            have HGd := Lib.hid (HG.out.below hin bd)
            have obk : ∀ y, (Value.slice a k c).ownBlock = some y → y < wr.drew.heap.size := fun y hy => (HGd.out.block hy).2
            have OBK := Lib.hid obk
            clear obk
            have zd : wr.heap.size ≤ wr.drew.heap.size := Nat.le_refl _
            have CHd : Hid (Chg [h] W9 wr.drew) := HCH.out.drew
            have hind : In W9.heap.size wr.drew.heap.size f := hin
            go_wp2
            clear pQ KHr HG HCH BWr bd hin
            refine wp_region_ord 10 [(0, true), (1, true), (2, true), (3, true), (4, true), (5, true), (6, true), (7, true), (8, false), (9, false)] (fun W => W.cell? ⟨h, 3, none⟩ = some (.slice a k c) ∧ W.cell? ⟨bp, 3, none⟩ = some (.slice (some ⟨b, off, none⟩) n.radios.length C3)) (by kernel_rfl) (by kernel_rfl) (⟨blkC (KHd.out) 3 rfl, (bat (BWd.out) bp _ hbp).trans P3.out⟩) (fun hHeld => ?_)
            generalize wr.drew = Y0 at *
            clear hHeld
            refine wpOrd_read (v := ?_) rfl (fun _ _ _ h => h) ?_ ?_
            rotate_left
            · (intro W hSW; (try dsimp only at hSW); (go_simp <;> with_reducible rfl))
            (try simp only [Act.put, List.setIfInBounds_toArray, List.set_cons_zero, List.set_cons_succ])
            refine wpOrd_read (v := ?_) rfl (fun _ _ _ h => h) ?_ ?_
            rotate_left
            · (intro W hSW; (try dsimp only at hSW); (go_simp <;> with_reducible rfl))
            (try simp only [Act.put, List.setIfInBounds_toArray, List.set_cons_zero, List.set_cons_succ])
            refine wpOrd_read (v := ?_) rfl (fun _ _ _ h => h) ?_ ?_
            rotate_left
            · (intro W hSW; (try dsimp only at hSW); (go_simp <;> with_reducible rfl))
            (try simp only [Act.put, List.setIfInBounds_toArray, List.set_cons_zero, List.set_cons_succ])
            refine wpOrd_read (v := ?_) rfl (fun _ _ _ h => h) ?_ ?_
            rotate_left
            · (intro W hSW; (try dsimp only at hSW); (go_simp <;> with_reducible rfl))
            (try simp only [Act.put, List.setIfInBounds_toArray, List.set_cons_zero, List.set_cons_succ])
            refine wpOrd_read (v := ?_) rfl (fun _ _ _ h => h) ?_ ?_
            rotate_left
            · (intro W hSW; (try dsimp only at hSW); (go_simp <;> with_reducible rfl))
            (try simp only [Act.put, List.setIfInBounds_toArray, List.set_cons_zero, List.set_cons_succ])
            refine wpOrd_read (v := ?_) rfl (fun _ _ _ h => h) ?_ ?_
            rotate_left
            · (intro W hSW; (try dsimp only at hSW); (go_simp <;> with_reducible rfl))
            (try simp only [Act.put, List.setIfInBounds_toArray, List.set_cons_zero, List.set_cons_succ])
            refine wpOrd_read (v := ?_) rfl (fun _ _ _ h => h) ?_ ?_
            rotate_left
            · (intro W hSW; (try dsimp only at hSW); (go_simp <;> with_reducible rfl))
            (try simp only [Act.put, List.setIfInBounds_toArray, List.set_cons_zero, List.set_cons_succ])
            refine wpOrd_read (v := ?_) rfl (fun _ _ _ h => h) ?_ ?_
            rotate_left
            · (intro W hSW; (try dsimp only at hSW); (go_simp <;> with_reducible rfl))
            (try simp only [Act.put, List.setIfInBounds_toArray, List.set_cons_zero, List.set_cons_succ])
            refine wpOrd_step rfl (fun K hK => ?_)
            go_simp
            refine (HO.out _ BWd.out).mono ?_
            rintro e Y1 ⟨b5, d5, fp, rfl, hb, ov, iv⟩
            refine hK.out _ _ (⟨blkC (blkB KHd.out hb (by omega)) 3 rfl, (bat (BWd.out.trans (hb.mono (by omega))) bp _ hbp).trans P3.out⟩) ?_
            clear hK K
            (try simp only [Act.put, List.setIfInBounds_toArray, List.set_cons_zero, List.set_cons_succ])
            have KH1 := Lib.hid (blkB KHd.out hb (by omega))
            have BW1 := Lib.hid (BWd.out.trans (hb.mono (by omega)))
            have G1 := Lib.hid (HGd.out.below hind hb)
            have z1 : Y0.heap.size ≤ Y1.heap.size := hb.size
            have CH1 := Lib.hid (CHd.out.thenBelow (hb.mono (by omega)))
            have OV := Lib.hid ov
            have bA : Below Y1.heap.size Y1 (Y1.alloc (.cells #[.string n.radios[k].name, .int .i64 n.radios[k].power, .int .i64 n.radios[k].feeder, .int .i64 n.radios[k].noise, .int .i64 n.radios[k].width, .slice b5 n.radios[k].modes.length d5] 125)) := (Below.refl _ _).alloc (Nat.le_refl _) _
            clear hb ov KHd BWd HGd CHd
            refine wpOrd_step rfl (fun K hK => ?_)
            go_simp
            refine hK.out _ _ (⟨blkC (blkB KH1.out bA (by omega)) 3 rfl, (bat (BW1.out.trans (bA.mono (by omega))) bp _ hbp).trans P3.out⟩) ?_
            clear hK K
            (try simp only [Act.put, List.setIfInBounds_toArray, List.set_cons_zero, List.set_cons_succ])
            clear bA
            refine wpOrd_nil ?_
            simp only [List.drop_succ_cons, List.drop_zero]
            have g_ob : ∀ y, (Value.slice a k c).ownBlock = some y → W9.heap.size ≤ y ∧ y < Y0.heap.size := fun y hy => by
              have h1 := (G1.out.block hy)
              exact ⟨h1.1, OBK.out y hy⟩
            have GOB := Lib.hid g_ob
            clear g_ob
            go_wp2_with (at_builtin; refine wpList_append1 rfl (.tmp 50) (.tmp 58) _ rfl W9.heap.size 125 iR _ 6 72 Tryz.underlying33 hR0 hR1 hR2 hR3 rfl (by omega) _ _ _ f rfl G1.out [.string n.radios[k].name, .int .i64 n.radios[k].power, .int .i64 n.radios[k].feeder, .int .i64 n.radios[k].noise, .int .i64 n.radios[k].width, .slice b5 n.radios[k].modes.length d5] n.radios[k].tr fp rfl 1 rfl (fun u hu => by simp only [List.mem_cons, List.not_mem_nil, or_false] at hu; rcases hu with rfl | rfl | rfl | rfl | rfl | rfl <;> rfl) OV.out.rep OV.out.nd OV.out.free W9.heap.size (hind.mono (Nat.le_refl _) z1) (iv.mono (by omega) (Nat.le_refl _)) (fun y h1 h2 => by have := (iv y h1).1; have := (hind y h2).2; omega) (fun y hy h2 => by have := (iv y h2).1; have := (GOB.out y hy).2; omega) (by simp only [maxLen]; omega) (by omega) (by omega) ?_; intro v4 w2 hgn; obtain ⟨a4, c4, e4⟩ := hgn.grow.slice; subst e4; have kh2 := (hgn.keep h (by omega) (fun e => by have := (GOB.out h e).1; omega)).trans KH1.out; have KH2 := Lib.hid kh2; obtain ⟨m0, m1, m2, m3⟩ := blk4 kh2; have mz := blkF kh2; have HGN := Lib.hid hgn; clear hgn kh2)
            go_roundw
            case rel =>
              refine ⟨k + 1, a4, c4, f ++ fp, by omega, by go_num, ?_, ?_, ?_, ?_⟩
              · have := blkS KH2.out 3 (.slice a4 (k + 1) c4)
                simpa using this
              · rw [flat_take_succ DRadio.tr n.radios k hlt]
                exact HGN.out.grow.frame (fun y hy => Below.heap_setCell _ _ _ _ (by have := (HGN.out.grow.block hy).1; show y ≠ h; omega)) (fun y hy => Below.heap_setCell _ _ _ _ (by
                  show y ≠ h
                  rcases List.mem_append.1 hy with hy | hy
                  · have := (hind y hy).1; omega
                  · have := (iv y hy).1; omega))
              · simp only [size_setCell]
                have := HGN.out.size
                exact (hind.mono (Nat.le_refl _) (by omega)).append (iv.mono (by omega) (by omega))
              · exact (CH1.out.thenBelow HGN.out.below).setCell (by simp) _
            case measure => simp [intOf]; omega
          · obtain rfl : k = n.radios.length := by omega
            obtain ⟨W10, ew⟩ : ∃ W : World, W = wr := ⟨_, rfl⟩
            subst ew
            rw [List.take_length] at HG
            obtain ⟨G3, OG, IG, -⟩ := HG.out.toOwnB (lo := W9.heap.size) (by decide) hin (Nat.le_refl _)
            have O3_10 := Lib.hid OG
            have KH10 := Lib.hid KHr.out
            have KR10 := Lib.hid ((HCH.out.block w.heap.size (by omega) (by simp; omega)).trans KR9.out)
            have BB10 := Lib.hid BWr.out
            have O0_10 := Lib.hid (O0_9.out.chg (lo := w.heap.size) (hi := W9.heap.size) (fun y hy => by have := F0.out y hy; omega) (Nat.le_refl _) HCH.out (fun y hy e => by have := F0.out y hy; simp at e; omega))
            have O1_10 := Lib.hid (O1_9.out.chg (lo := w.heap.size) (hi := W9.heap.size) (fun y hy => by have := F1.out y hy; omega) (Nat.le_refl _) HCH.out (fun y hy e => by have := F1.out y hy; simp at e; omega))
            have O2_10 := Lib.hid (O2_9.out.chg IG2 (Nat.le_refl _) HCH.out (fun y hy e => by have := (IG2 y hy).1; simp at e; omega))
            have IG3 := IG
            clear OG IG hin HCH KHr BWr HG hlt KH9 KR9 BB9 O0_9 O1_9 O2_9
            obtain ⟨a3, ea⟩ : ∃ x, x = a := ⟨_, rfl⟩
            obtain ⟨c3, ec⟩ : ∃ x, x = c := ⟨_, rfl⟩
            subst ea ec
            have z10 : W9.heap.size ≤ W10.heap.size := zr
            have ov : OwnV W10 n.tr [.slice a0 n.sites.length c0, .slice a1 n.sectors.length c1, .slice a2 n.antennas.length c2, .slice a3 n.radios.length c3] (f0 ++ (f1 ++ (G2 ++ (G3 ++ [])))) := OwnV.cons O0_10.out (OwnV.cons O1_10.out (OwnV.cons O2_10.out (OwnV.cons O3_10.out OwnV.nil (by simp)) (fun x h1 h2 => by
                simp only [List.append_nil] at h2; have := (IG2 x h1).2; have := (IG3 x h2).1; omega)) (fun x h1 h2 => by
                have := F1.out x h1
                rcases List.mem_append.1 h2 with h2 | h2
                · have := (IG2 x h2).1; omega
                · simp only [List.append_nil] at h2; have := (IG3 x h2).1; omega)) (fun x h1 h2 => by
                have := F0.out x h1
                rcases List.mem_append.1 h2 with h2 | h2
                · exact this.2.2 h2
                rcases List.mem_append.1 h2 with h2 | h2
                · have := (IG2 x h2).1; omega
                · simp only [List.append_nil] at h2; have := (IG3 x h2).1; omega)
            have iv : In (w.heap.size + 1) W10.heap.size (f0 ++ (f1 ++ (G2 ++ (G3 ++ [])))) := by
              refine In.append (fun y hy => ?_) (In.append (fun y hy => ?_) ((IG2.mono (by omega) (by omega)).append ((IG3.mono (by omega) (by omega)).append In.nil)))
              · have := F0.out y hy; omega
              · have := F1.out y hy; omega
            have OVF := Lib.hid ov
            have IVF := Lib.hid iv
            obtain ⟨t0, t1, t2, t3⟩ := blk4 KH10.out
            obtain ⟨g0, g1, g2, g3⟩ := blk4 KR10.out
            have fz := blkF KR10.out
            clear ov iv
            go_wp2
            have BF := Lib.hid (((((BB10.out).setCell (p := ⟨w.heap.size, 0, none⟩) (Nat.le_refl _) (.slice a0 n.sites.length c0)).setCell (p := ⟨w.heap.size, 1, none⟩) (Nat.le_refl _) (.slice a1 n.sectors.length c1)).setCell (p := ⟨w.heap.size, 2, none⟩) (Nat.le_refl _) (.slice a2 n.antennas.length c2)).setCell (p := ⟨w.heap.size, 3, none⟩) (Nat.le_refl _) (.slice a3 n.radios.length c3))
            have OF := Lib.hid (((((OVF.out).setFar (p := ⟨w.heap.size, 0, none⟩) (fun e => by have := (IVF.out _ e).1; simp only at this; omega) (.slice a0 n.sites.length c0)).setFar (p := ⟨w.heap.size, 1, none⟩) (fun e => by have := (IVF.out _ e).1; simp only at this; omega) (.slice a1 n.sectors.length c1)).setFar (p := ⟨w.heap.size, 2, none⟩) (fun e => by have := (IVF.out _ e).1; simp only at this; omega) (.slice a2 n.antennas.length c2)).setFar (p := ⟨w.heap.size, 3, none⟩) (fun e => by have := (IVF.out _ e).1; simp only at this; omega) (.slice a3 n.radios.length c3))
            refine bodyPost_ret (v := .agg #[.slice a0 n.sites.length c0, .slice a1 n.sectors.length c1, .slice a2 n.antennas.length c2, .slice a3 n.radios.length c3]) (by simp [results, Tryz.results39, go_sem, *]) rfl ⟨a0, c0, a1, c1, a2, c2, a3, c3, _, rfl, BF.out, OF.out, ?_⟩
            simp only [size_setCell]
            exact IVF.out.mono (by omega) (Nat.le_refl _)
end Go.Proofs.YtppgcgopnchbcaaGreat
