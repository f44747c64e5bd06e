/- The walk of the law FnExactAddSector: it returns true. -/
import Derived.Test.YtppgcgopnchbcaaGreatNetSSector
import Derived.Test.YtppgcgopnchbcaaGreatStrs
import Derived.Test.YtppgcgopnchbcaaGreatHNetwork
import Derived.Test.YtppgcgopnchbcaaGreatTree
import Derived.Deep.RegionHeld3
namespace Go.Proofs.YtppgcgopnchbcaaGreat.fnExactAddSector
open Go.RowKit
set_option linter.unusedVariables false
theorem cntL_net (n : DNetwork) : cnt (DSite.sT n.sites) + cnt (DSector.sT n.sectors) + cnt (DAntenna.sT n.antennas) + cnt (DRadio.sT n.radios) ≤ 16 * sizL n.tr := by
  have h := DNetwork.siz_tr n
  have h0 := DSite.cnt_le n.sites
  have h1 := DSector.cnt_le n.sectors
  have h2 := DAntenna.cnt_le n.antennas
  have h3 := DRadio.cnt_le n.radios
  omega
theorem siz_zero : sizL (DNetwork.tr ⟨[], [], [], []⟩) = 0 := rfl
theorem siz_ins (l : List DSector) (x : DSector) (k : Nat) : siz (DSector.sT (insAt l x k)) ≤ siz (DSector.sT l) + sizL x.tr + 1 := by
  rw [DSector.siz_s, DSector.siz_s]
  have h1 : (insAt l x k).length = l.length + 1 := by unfold insAt; simp only [List.length_append, List.length_cons, List.length_take, List.length_drop]; omega
  have h2 : sizL ((insAt l x k).flatMap DSector.tr) = sizL (l.flatMap DSector.tr) + sizL x.tr := by
    unfold insAt
    rw [List.flatMap_append, List.flatMap_cons, sizL_append, sizL_append]
    conv => rhs; rw [← List.take_append_drop k l, List.flatMap_append, sizL_append]
    omega
  omega
theorem R_siz (n : DNetwork) (x : DSector) : sizL (addSecR n x).1.tr ≤ sizL n.tr + sizL x.tr + 1 := by
  unfold addSecR
  repeat' split
  all_goals (first | (rw [siz_zero]; omega) | (have h := DNetwork.siz_tr n; rw [DNetwork.siz_tr]; have h1 := siz_ins n.sectors x (posOf DSector.name n.sectors x.name); simp only; omega))
set_option maxHeartbeats 4000000 in
set_option maxRecDepth 100000 in
theorem walk (nw : DNetwork) (x : DSector) (vnw0 vnw1 vnw2 vnw3 : Value) (w : World) (rnw0 : Rd w.heap.size w (DSite.sT nw.sites) vnw0) (rnw1 : Rd w.heap.size w (DSector.sT nw.sectors) vnw1) (rnw2 : Rd w.heap.size w (DAntenna.sT nw.antennas) vnw2) (rnw3 : Rd w.heap.size w (DRadio.sT nw.radios) vnw3) (hk_nw : nw.ok) (hk_x : x.ok) :
    Calls Tryz.prog 8 #[.agg #[vnw0, vnw1, vnw2, vnw3], .agg #[.string x.name, .string x.site, .string x.antenna, .string x.radio, .string x.band, .int .i64 x.azimuth, .int .i64 x.tilt, .int .i64 x.above, .int .i64 x.channel]] w fun e w' => e = .returned (.bool true) ∧ Below w.heap.size w w' := by
  have Hnw0 := Lib.hid rnw0
  have Hnw1 := Lib.hid rnw1
  have Hnw2 := Lib.hid rnw2
  have Hnw3 := Lib.hid rnw3
  clear rnw0 rnw1 rnw2 rnw3
  have hq_nw := DNetwork.siz_tr nw
  have hq_x := DSector.siz_tr x
  have hcn := cntL_net nw
  have hRs := R_siz nw x
  have hR0 := DNetwork.siz_tr (addSecR nw x).1
  have hRc := cntL_net (addSecR nw x).1
  have BB0 : Hid (Below w.heap.size w w) := Below.refl _ _
  generalize hR : addSecR nw x = R at *
  have HR := Lib.hid hR
  clear hR
  have HS : Hid (∀ (W : World) (xnw0 xnw1 xnw2 xnw3 : Value), Rd W.heap.size W (DSite.sT nw.sites) xnw0 → Rd W.heap.size W (DSector.sT nw.sectors) xnw1 → Rd W.heap.size W (DAntenna.sT nw.antennas) xnw2 → Rd W.heap.size W (DRadio.sT nw.radios) xnw3 → sizL nw.tr ≤ 1048576 → sizL x.tr ≤ 1048576 → Calls Tryz.prog 31 #[.agg #[xnw0, xnw1, xnw2, xnw3], .agg #[.string x.name, .string x.site, .string x.antenna, .string x.radio, .string x.band, .int .i64 x.azimuth, .int .i64 x.tilt, .int .i64 x.above, .int .i64 x.channel]] W (fun e w' => ∃ a0_0 c0_0 a0_1 c0_1 a0_2 c0_2 a0_3 c0_3 fp0, e = .returned (.tuple #[.agg #[.slice a0_0 R.1.sites.length c0_0, .slice a0_1 R.1.sectors.length c0_1, .slice a0_2 R.1.antennas.length c0_2, .slice a0_3 R.1.radios.length c0_3], .int .i64 R.2]) ∧ Below W.heap.size W w' ∧ OwnV w' R.1.tr [.slice a0_0 R.1.sites.length c0_0, .slice a0_1 R.1.sectors.length c0_1, .slice a0_2 R.1.antennas.length c0_2, .slice a0_3 R.1.radios.length c0_3] fp0 ∧ In W.heap.size w'.heap.size fp0)) := fun W xnw0 xnw1 xnw2 xnw3 ynw0 ynw1 ynw2 ynw3 z0 z1 => by rw [← HR.out]; exact sAddSector_std nw x xnw0 xnw1 xnw2 xnw3 W ynw0 ynw1 ynw2 ynw3 z0 hk_nw z1 hk_x
  have HI : Hid (∀ (W : World) (xnw0 xnw1 xnw2 xnw3 : Value), Rd W.heap.size W (DSite.sT nw.sites) xnw0 → Rd W.heap.size W (DSector.sT nw.sectors) xnw1 → Rd W.heap.size W (DAntenna.sT nw.antennas) xnw2 → Rd W.heap.size W (DRadio.sT nw.radios) xnw3 → sizL nw.tr ≤ 1048576 → sizL x.tr ≤ 1048576 → Calls Tryz.prog 32 #[.agg #[xnw0, xnw1, xnw2, xnw3], .agg #[.string x.name, .string x.site, .string x.antenna, .string x.radio, .string x.band, .int .i64 x.azimuth, .int .i64 x.tilt, .int .i64 x.above, .int .i64 x.channel]] W (fun e w' => ∃ a0_0 c0_0 a0_1 c0_1 a0_2 c0_2 a0_3 c0_3 fp0, e = .returned (.tuple #[.agg #[.slice a0_0 R.1.sites.length c0_0, .slice a0_1 R.1.sectors.length c0_1, .slice a0_2 R.1.antennas.length c0_2, .slice a0_3 R.1.radios.length c0_3], .int .i64 R.2]) ∧ Below W.heap.size W w' ∧ OwnV w' R.1.tr [.slice a0_0 R.1.sites.length c0_0, .slice a0_1 R.1.sectors.length c0_1, .slice a0_2 R.1.antennas.length c0_2, .slice a0_3 R.1.radios.length c0_3] fp0 ∧ In W.heap.size w'.heap.size fp0)) := fun W xnw0 xnw1 xnw2 xnw3 ynw0 ynw1 ynw2 ynw3 z0 z1 => by rw [← HR.out]; exact iAddSector_std nw x xnw0 xnw1 xnw2 xnw3 W ynw0 ynw1 ynw2 ynw3 z0 hk_nw z1 hk_x
  go_enter Tryz.func8, Tryz.ntmps8
  go_wp2_with fail
  have BX1 : Hid (Below w.heap.size w ((w.alloc (.cells #[vnw0, vnw1, vnw2, vnw3] 27)).alloc (.cells #[.string x.name, .string x.site, .string x.antenna, .string x.radio, .string x.band, .int .i64 x.azimuth, .int .i64 x.tilt, .int .i64 x.above, .int .i64 x.channel] 46))) := ((BB0.out.alloc (by first | omega | (simp; done) | (simp; omega)) _).alloc (by first | omega | (simp; done) | (simp; omega)) _)
  have zx1 := BX1.out.size
  refine (sz_Network nw vnw0 vnw1 vnw2 vnw3 w.heap.size _ _ (Hnw0.out.below BX1.out) (Hnw1.out.below BX1.out) (Hnw2.out.below BX1.out) (Hnw3.out.below BX1.out) (by omega) (by omega) (by omega) hk_nw).mono ?_
  rintro e w1 ⟨⟨cz1, rfl⟩ | ⟨cz1, rfl⟩, hb1⟩
  case inr =>
    go_wp2
    go_ret
    exact ⟨rfl, BX1.out.trans (hb1.mono (by omega))⟩
  have cy1 : decide ((1048576 : Int) - sizL nw.tr < 0) = false := by simp; omega
  have hx1 : Below w.heap.size w ((w.alloc (.cells #[vnw0, vnw1, vnw2, vnw3] 27)).alloc (.cells #[.string x.name, .string x.site, .string x.antenna, .string x.radio, .string x.band, .int .i64 x.azimuth, .int .i64 x.tilt, .int .i64 x.above, .int .i64 x.channel] 46)) := (((Below.refl _ _).alloc (Nat.le_refl _) _).alloc (by first | (simp; done) | (simp; omega)) _)
  have hbb1 : Below w.heap.size w w1 := hx1.trans (hb1.mono (by first | (simp; done) | (simp; omega)))
  have z1 := hbb1.size
  obtain ⟨qAnw1, _, yAnw1⟩ := bcellAt hb1 (b := w.heap.size) (by first | omega | (simp; done) | (simp; omega))
  obtain ⟨qAx1, _, yAx1⟩ := bcellAt hb1 (b := w.heap.size + 1) (by first | omega | (simp; done) | (simp; omega))
  have BB1 := Lib.hid (BB0.out.trans (hbb1.mono (by omega)))
  clear hx1
  clear hb1 hbb1
  have CZ1 := Lib.hid cy1
  go_wp2_with fail
  have BX2 : Hid (Below w.heap.size w w1) := BB1.out
  have zx2 := BX2.out.size
  refine (sz_Sector x  w.heap.size _ _  (by omega) (by omega) (by omega) hk_x).mono ?_
  rintro e w2 ⟨⟨cz2, rfl⟩ | ⟨cz2, rfl⟩, hb2⟩
  case inr =>
    go_wp2
    go_ret
    exact ⟨rfl, BX2.out.trans (hb2.mono (by omega))⟩
  have cy2 : decide (((1048576 : Int) - sizL nw.tr) - sizL x.tr < 0) = false := by simp; omega
  have hbb2 : Below w1.heap.size w1 w2 := hb2
  have z2 := hbb2.size
  obtain ⟨qAnw2, _, yAnw2⟩ := bcellAt hb2 (b := w.heap.size) (by first | omega | (simp; done) | (simp; omega))
  obtain ⟨qAx2, _, yAx2⟩ := bcellAt hb2 (b := w.heap.size + 1) (by first | omega | (simp; done) | (simp; omega))
  have BB2 := Lib.hid (BB1.out.trans (hbb2.mono (by omega)))
  clear hbb2
  have CZ2 := Lib.hid cy2
  go_wp2
  have hcf : w2.cell? ⟨w.heap.size, 0, none⟩ = some (vnw0) ∧ w2.cell? ⟨w.heap.size, 1, none⟩ = some (vnw1) ∧ w2.cell? ⟨w.heap.size, 2, none⟩ = some (vnw2) ∧ w2.cell? ⟨w.heap.size, 3, none⟩ = some (vnw3) ∧ w2.cell? ⟨w.heap.size + 1, 0, none⟩ = some (.string x.name) ∧ w2.cell? ⟨w.heap.size + 1, 1, none⟩ = some (.string x.site) ∧ w2.cell? ⟨w.heap.size + 1, 2, none⟩ = some (.string x.antenna) ∧ w2.cell? ⟨w.heap.size + 1, 3, none⟩ = some (.string x.radio) ∧ w2.cell? ⟨w.heap.size + 1, 4, none⟩ = some (.string x.band) ∧ w2.cell? ⟨w.heap.size + 1, 5, none⟩ = some (.int .i64 x.azimuth) ∧ w2.cell? ⟨w.heap.size + 1, 6, none⟩ = some (.int .i64 x.tilt) ∧ w2.cell? ⟨w.heap.size + 1, 7, none⟩ = some (.int .i64 x.above) ∧ w2.cell? ⟨w.heap.size + 1, 8, none⟩ = some (.int .i64 x.channel) := by refine ⟨?_, ?_, ?_, ?_, ?_, ?_, ?_, ?_, ?_, ?_, ?_, ?_, ?_⟩ <;> simp [go_sem, *]
  have HKB : Hid (∀ W : World, Below w2.heap.size w2 W → W.cell? ⟨w.heap.size, 0, none⟩ = some (vnw0) ∧ W.cell? ⟨w.heap.size, 1, none⟩ = some (vnw1) ∧ W.cell? ⟨w.heap.size, 2, none⟩ = some (vnw2) ∧ W.cell? ⟨w.heap.size, 3, none⟩ = some (vnw3) ∧ W.cell? ⟨w.heap.size + 1, 0, none⟩ = some (.string x.name) ∧ W.cell? ⟨w.heap.size + 1, 1, none⟩ = some (.string x.site) ∧ W.cell? ⟨w.heap.size + 1, 2, none⟩ = some (.string x.antenna) ∧ W.cell? ⟨w.heap.size + 1, 3, none⟩ = some (.string x.radio) ∧ W.cell? ⟨w.heap.size + 1, 4, none⟩ = some (.string x.band) ∧ W.cell? ⟨w.heap.size + 1, 5, none⟩ = some (.int .i64 x.azimuth) ∧ W.cell? ⟨w.heap.size + 1, 6, none⟩ = some (.int .i64 x.tilt) ∧ W.cell? ⟨w.heap.size + 1, 7, none⟩ = some (.int .i64 x.above) ∧ W.cell? ⟨w.heap.size + 1, 8, none⟩ = some (.int .i64 x.channel)) := fun W hW => by
    obtain ⟨e0, e1, e2, e3, e4, e5, e6, e7, e8, e9, e10, e11, e12⟩ := hcf
    exact ⟨(bat hW _ _ (by omega)).trans e0, (bat hW _ _ (by omega)).trans e1, (bat hW _ _ (by omega)).trans e2, (bat hW _ _ (by omega)).trans e3, (bat hW _ _ (by omega)).trans e4, (bat hW _ _ (by omega)).trans e5, (bat hW _ _ (by omega)).trans e6, (bat hW _ _ (by omega)).trans e7, (bat hW _ _ (by omega)).trans e8, (bat hW _ _ (by omega)).trans e9, (bat hW _ _ (by omega)).trans e10, (bat hW _ _ (by omega)).trans e11, (bat hW _ _ (by omega)).trans e12⟩
  clear hcf
  have BBd : Hid (Below w2.heap.size w2 w2.drew) := (Below.refl _ _).drew
  go_cut [6, 7] (fun s0 s1 wx => ∃ (hs : Nat) (as00 : Option Addr) (cs00 : Nat) (as01 : Option Addr) (cs01 : Nat) (as02 : Option Addr) (cs02 : Nat) (as03 : Option Addr) (cs03 : Nat) (fs0 : List Nat) (los his : Nat), s0 = .pointer (some ⟨hs, 0, none⟩) ∧ s1 = .int .i64 R.2 ∧ wx.heap[hs]? = some (.cells #[.slice as00 R.1.sites.length cs00, .slice as01 R.1.sectors.length cs01, .slice as02 R.1.antennas.length cs02, .slice as03 R.1.radios.length cs03] 35 (0, 0)) ∧ w2.heap.size ≤ hs ∧ hs < wx.heap.size ∧ Below w2.heap.size w2 wx ∧ OwnV wx R.1.tr [.slice as00 R.1.sites.length cs00, .slice as01 R.1.sectors.length cs01, .slice as02 R.1.antennas.length cs02, .slice as03 R.1.radios.length cs03] fs0 ∧ In los his fs0 ∧ w2.heap.size ≤ los ∧ his ≤ wx.heap.size ∧ (hs < los ∨ his ≤ hs))
  case first =>
    refine wp_region_tree 10 (.read 0 (.read 2 (.two 1 8 (.two 3 8 (.two 4 8 (.read 5 (.read 6 (.read 7 (.one 8 (.one 9 .nil))))) (.one 4 (.read 5 (.read 6 (.read 7 (.one 9 .nil)))))) (.one 3 (.one 4 (.read 5 (.read 6 (.read 7 (.one 9 .nil))))))) (.one 1 (.one 3 (.one 4 (.read 5 (.read 6 (.read 7 (.one 9 .nil)))))))))) (fun W => W.cell? ⟨w.heap.size, 0, none⟩ = some (vnw0) ∧ W.cell? ⟨w.heap.size, 1, none⟩ = some (vnw1) ∧ W.cell? ⟨w.heap.size, 2, none⟩ = some (vnw2) ∧ W.cell? ⟨w.heap.size, 3, none⟩ = some (vnw3) ∧ W.cell? ⟨w.heap.size + 1, 0, none⟩ = some (.string x.name) ∧ W.cell? ⟨w.heap.size + 1, 1, none⟩ = some (.string x.site) ∧ W.cell? ⟨w.heap.size + 1, 2, none⟩ = some (.string x.antenna) ∧ W.cell? ⟨w.heap.size + 1, 3, none⟩ = some (.string x.radio) ∧ W.cell? ⟨w.heap.size + 1, 4, none⟩ = some (.string x.band) ∧ W.cell? ⟨w.heap.size + 1, 5, none⟩ = some (.int .i64 x.azimuth) ∧ W.cell? ⟨w.heap.size + 1, 6, none⟩ = some (.int .i64 x.tilt) ∧ W.cell? ⟨w.heap.size + 1, 7, none⟩ = some (.int .i64 x.above) ∧ W.cell? ⟨w.heap.size + 1, 8, none⟩ = some (.int .i64 x.channel)) (by kernel_rfl) (by kernel_rfl) (HKB.out _ BBd.out) ?_
    have zd : w2.heap.size ≤ w2.drew.heap.size := Nat.le_refl _
    generalize w2.drew = Y at *
    refine wpTree_read (v := ?_) rfl (fun _ _ _ h => h) ?_ ?_
    rotate_left
    · (intro W hSW; (try dsimp only at hSW); (go_simp <;> with_reducible rfl))
    (try simp only [Act.put, List.setIfInBounds_toArray, List.set_cons_zero, List.set_cons_succ])
    refine wpTree_read (v := ?_) rfl (fun _ _ _ h => h) ?_ ?_
    rotate_left
    · (intro W hSW; (try dsimp only at hSW); (go_simp <;> with_reducible rfl))
    (try simp only [Act.put, List.setIfInBounds_toArray, List.set_cons_zero, List.set_cons_succ])
    refine wpTree_two ?_ ?_
    · refine stepT_mk rfl (fun K hK => ?_)
      go_simp
      refine (to_Network nw _ _ _ _ _ ((Hnw0.out.below (BB2.out.trans (BBd.out.mono (by omega)))).mono (by omega)) ((Hnw1.out.below (BB2.out.trans (BBd.out.mono (by omega)))).mono (by omega)) ((Hnw2.out.below (BB2.out.trans (BBd.out.mono (by omega)))).mono (by omega)) ((Hnw3.out.below (BB2.out.trans (BBd.out.mono (by omega)))).mono (by omega)) (by omega)).mono ?_
      rintro e Y1 ⟨atnw0, ctnw0, atnw1, ctnw1, atnw2, ctnw2, atnw3, ctnw3, ftnw, rfl, hb1, ov1, iv1⟩
      refine hK.out _ _ (HKB.out _ (BBd.out.trans (hb1.mono (by omega)))) ?_
      clear hK K
      (try simp only [Act.put, List.setIfInBounds_toArray, List.set_cons_zero, List.set_cons_succ])
      have OT1 := Lib.hid ov1
      have itnw := iv1
      clear ov1 iv1
      have bs1 : Y.heap.size ≤ Y1.heap.size := hb1.size
      have BY1 := Lib.hid (BBd.out.trans (hb1.mono (by omega)))
      clear hb1
      refine wpTree_two ?_ ?_
      · refine stepT_mk rfl (fun K hK => ?_)
        go_simp
        refine (to_Sector x _).mono ?_
        rintro e Y2 ⟨rfl, hb2⟩
        refine hK.out _ _ (HKB.out _ (BY1.out.trans (hb2.mono (by omega)))) ?_
        clear hK K
        (try simp only [Act.put, List.setIfInBounds_toArray, List.set_cons_zero, List.set_cons_succ])
        have bs2 : Y1.heap.size ≤ Y2.heap.size := hb2.size
        have BY2 := Lib.hid (BY1.out.trans (hb2.mono (by omega)))
        have OT2_nw := Lib.hid (OT1.out.below itnw (by omega) hb2)
        clear hb2
        refine wpTree_two ?_ ?_
        · refine stepT_mk rfl (fun K hK => ?_)
          go_simp
          refine (HS.out _ _ _ _ _ (((OT2_nw.out.rd itnw).1).mono (by omega)) (((OT2_nw.out.rd itnw).2.1).mono (by omega)) (((OT2_nw.out.rd itnw).2.2.1).mono (by omega)) (((OT2_nw.out.rd itnw).2.2.2.1).mono (by omega)) (by omega) (by omega)).mono ?_
          rintro e Y3 ⟨as00, cs00, as01, cs01, as02, cs02, as03, cs03, fs0, rfl, hb3, ov3, iv3⟩
          refine hK.out _ _ (HKB.out _ (BY2.out.trans (hb3.mono (by omega)))) ?_
          clear hK K
          (try simp only [Act.put, List.setIfInBounds_toArray, List.set_cons_zero, List.set_cons_succ])
          have OR3 := Lib.hid ov3
          have ir := iv3
          clear ov3 iv3
          have bs3 : Y2.heap.size ≤ Y3.heap.size := hb3.size
          have BY3 := Lib.hid (BY2.out.trans (hb3.mono (by omega)))
          clear hb3
          refine wpTree_read (v := ?_) rfl (fun _ _ _ h => h) ?_ ?_
          rotate_left
          · (intro W hSW; (try dsimp only at hSW); (go_simp <;> with_reducible rfl))
          (try simp only [Act.put, List.setIfInBounds_toArray, List.set_cons_zero, List.set_cons_succ])
          refine wpTree_read (v := ?_) rfl (fun _ _ _ h => h) ?_ ?_
          rotate_left
          · (intro W hSW; (try dsimp only at hSW); (go_simp <;> with_reducible rfl))
          (try simp only [Act.put, List.setIfInBounds_toArray, List.set_cons_zero, List.set_cons_succ])
          refine wpTree_read (v := ?_) rfl (fun _ _ _ h => h) ?_ ?_
          rotate_left
          · (intro W hSW; (try dsimp only at hSW); (go_simp <;> with_reducible rfl))
          (try simp only [Act.put, List.setIfInBounds_toArray, List.set_cons_zero, List.set_cons_succ])
          refine wpTree_one ?_
          refine stepT_mk rfl (fun K hK => ?_)
          go_simp
          have hb4 : Below Y3.heap.size Y3 (Y3.alloc (.cells #[.slice none 0 0, .slice none 0 0, .slice none 0 0, .slice none 0 0] 35)) := (Below.refl _ _).alloc (Nat.le_refl _) _
          have kh4 := Lib.hid (blkN Y3 #[.slice none 0 0, .slice none 0 0, .slice none 0 0, .slice none 0 0] 35)
          have zl4 : Y3.heap.size + 1 ≤ (Y3.alloc (.cells #[.slice none 0 0, .slice none 0 0, .slice none 0 0, .slice none 0 0] 35)).heap.size := by simp
          refine hK.out _ _ (HKB.out _ (BY3.out.trans (hb4.mono (by omega)))) ?_
          clear hK K
          (try simp only [Act.put, List.setIfInBounds_toArray, List.set_cons_zero, List.set_cons_succ])
          generalize (Y3.alloc (.cells #[.slice none 0 0, .slice none 0 0, .slice none 0 0, .slice none 0 0] 35)) = Y4 at *
          have bs4 : Y3.heap.size ≤ Y4.heap.size := hb4.size
          have BY4 := Lib.hid (BY3.out.trans (hb4.mono (by omega)))
          have OR4 := Lib.hid (OR3.out.below ir (by omega) hb4)
          clear hb4
          refine wpTree_one ?_
          refine stepT_mk rfl (fun K hK => ?_)
          have g0_ := blkC (v := .slice none 0 0) kh4.out 0 rfl
          have g1_ := blkC (v := .slice none 0 0) kh4.out 1 rfl
          have g2_ := blkC (v := .slice none 0 0) kh4.out 2 rfl
          have g3_ := blkC (v := .slice none 0 0) kh4.out 3 rfl
          have fz := blkF kh4.out
          have kf_ : ((((Y4.setCell ⟨Y3.heap.size, 0, none⟩ (.slice as00 R.1.sites.length cs00)).setCell ⟨Y3.heap.size, 1, none⟩ (.slice as01 R.1.sectors.length cs01)).setCell ⟨Y3.heap.size, 2, none⟩ (.slice as02 R.1.antennas.length cs02)).setCell ⟨Y3.heap.size, 3, none⟩ (.slice as03 R.1.radios.length cs03)).heap[Y3.heap.size]? = some (.cells #[.slice as00 R.1.sites.length cs00, .slice as01 R.1.sectors.length cs01, .slice as02 R.1.antennas.length cs02, .slice as03 R.1.radios.length cs03] 35 (0, 0)) := by
            have h_ := blkS (blkS (blkS (blkS (kh4.out) 0 (.slice as00 R.1.sites.length cs00)) 1 (.slice as01 R.1.sectors.length cs01)) 2 (.slice as02 R.1.antennas.length cs02)) 3 (.slice as03 R.1.radios.length cs03)
            simpa using h_
          have KF := Lib.hid kf_
          clear kf_
          have BF := Lib.hid (((((BY4.out).setCell (p := ⟨Y3.heap.size, 0, none⟩) (by show w2.heap.size ≤ Y3.heap.size; omega) (.slice as00 R.1.sites.length cs00)).setCell (p := ⟨Y3.heap.size, 1, none⟩) (by show w2.heap.size ≤ Y3.heap.size; omega) (.slice as01 R.1.sectors.length cs01)).setCell (p := ⟨Y3.heap.size, 2, none⟩) (by show w2.heap.size ≤ Y3.heap.size; omega) (.slice as02 R.1.antennas.length cs02)).setCell (p := ⟨Y3.heap.size, 3, none⟩) (by show w2.heap.size ≤ Y3.heap.size; omega) (.slice as03 R.1.radios.length cs03))
          have OF := Lib.hid (((((OR4.out).setFar (p := ⟨Y3.heap.size, 0, none⟩) (fun e => by have := ir _ e; simp only at this; omega) (.slice as00 R.1.sites.length cs00)).setFar (p := ⟨Y3.heap.size, 1, none⟩) (fun e => by have := ir _ e; simp only at this; omega) (.slice as01 R.1.sectors.length cs01)).setFar (p := ⟨Y3.heap.size, 2, none⟩) (fun e => by have := ir _ e; simp only at this; omega) (.slice as02 R.1.antennas.length cs02)).setFar (p := ⟨Y3.heap.size, 3, none⟩) (fun e => by have := ir _ e; simp only at this; omega) (.slice as03 R.1.radios.length cs03))
          have zs5 : Y4.heap.size ≤ ((((Y4.setCell ⟨Y3.heap.size, 0, none⟩ (.slice as00 R.1.sites.length cs00)).setCell ⟨Y3.heap.size, 1, none⟩ (.slice as01 R.1.sectors.length cs01)).setCell ⟨Y3.heap.size, 2, none⟩ (.slice as02 R.1.antennas.length cs02)).setCell ⟨Y3.heap.size, 3, none⟩ (.slice as03 R.1.radios.length cs03)).heap.size := by simp only [size_setCell]; omega
          go_simp
          refine hK.out _ _ (HKB.out _ BF.out) ?_
          clear hK K fz g0_ g1_ g2_ g3_
          (try simp only [Act.put, List.setIfInBounds_toArray, List.set_cons_zero, List.set_cons_succ])
          generalize ((((Y4.setCell ⟨Y3.heap.size, 0, none⟩ (.slice as00 R.1.sites.length cs00)).setCell ⟨Y3.heap.size, 1, none⟩ (.slice as01 R.1.sectors.length cs01)).setCell ⟨Y3.heap.size, 2, none⟩ (.slice as02 R.1.antennas.length cs02)).setCell ⟨Y3.heap.size, 3, none⟩ (.slice as03 R.1.radios.length cs03)) = Y5 at *
          refine wpTree_nil ?_
          simp only [List.drop_succ_cons, List.drop_zero]
          go_wp2_with fail
          go_meet
          exact ⟨_, as00, cs00, as01, cs01, as02, cs02, as03, cs03, fs0, _, _, rfl, rfl, KF.out, by omega, by omega, BF.out, OF.out, ir, by omega, by omega, by omega⟩
        · refine stepT_mk rfl (fun K hK => ?_)
          go_simp
          have hb6 : Below Y2.heap.size Y2 (Y2.alloc (.cells #[.slice none 0 0, .slice none 0 0, .slice none 0 0, .slice none 0 0] 35)) := (Below.refl _ _).alloc (Nat.le_refl _) _
          have kh6 := Lib.hid (blkN Y2 #[.slice none 0 0, .slice none 0 0, .slice none 0 0, .slice none 0 0] 35)
          have zl6 : Y2.heap.size + 1 ≤ (Y2.alloc (.cells #[.slice none 0 0, .slice none 0 0, .slice none 0 0, .slice none 0 0] 35)).heap.size := by simp
          refine hK.out _ _ (HKB.out _ (BY2.out.trans (hb6.mono (by omega)))) ?_
          clear hK K
          (try simp only [Act.put, List.setIfInBounds_toArray, List.set_cons_zero, List.set_cons_succ])
          generalize (Y2.alloc (.cells #[.slice none 0 0, .slice none 0 0, .slice none 0 0, .slice none 0 0] 35)) = Y6 at *
          have bs6 : Y2.heap.size ≤ Y6.heap.size := hb6.size
          have BY6 := Lib.hid (BY2.out.trans (hb6.mono (by omega)))
          have OT6_nw := Lib.hid (OT2_nw.out.below itnw (by omega) hb6)
          clear hb6
          refine wpTree_one ?_
          refine stepT_mk rfl (fun K hK => ?_)
          go_simp
          refine (HS.out _ _ _ _ _ (((OT6_nw.out.rd itnw).1).mono (by omega)) (((OT6_nw.out.rd itnw).2.1).mono (by omega)) (((OT6_nw.out.rd itnw).2.2.1).mono (by omega)) (((OT6_nw.out.rd itnw).2.2.2.1).mono (by omega)) (by omega) (by omega)).mono ?_
          rintro e Y7 ⟨as00, cs00, as01, cs01, as02, cs02, as03, cs03, fs0, rfl, hb7, ov7, iv7⟩
          refine hK.out _ _ (HKB.out _ (BY6.out.trans (hb7.mono (by omega)))) ?_
          clear hK K
          (try simp only [Act.put, List.setIfInBounds_toArray, List.set_cons_zero, List.set_cons_succ])
          have OR7 := Lib.hid ov7
          have ir := iv7
          clear ov7 iv7
          have bs7 : Y6.heap.size ≤ Y7.heap.size := hb7.size
          have BY7 := Lib.hid (BY6.out.trans (hb7.mono (by omega)))
          have kh7 := Lib.hid (blkB kh6.out hb7 (by omega))
          clear hb7
          refine wpTree_read (v := ?_) rfl (fun _ _ _ h => h) ?_ ?_
          rotate_left
          · (intro W hSW; (try dsimp only at hSW); (go_simp <;> with_reducible rfl))
          (try simp only [Act.put, List.setIfInBounds_toArray, List.set_cons_zero, List.set_cons_succ])
          refine wpTree_read (v := ?_) rfl (fun _ _ _ h => h) ?_ ?_
          rotate_left
          · (intro W hSW; (try dsimp only at hSW); (go_simp <;> with_reducible rfl))
          (try simp only [Act.put, List.setIfInBounds_toArray, List.set_cons_zero, List.set_cons_succ])
          refine wpTree_read (v := ?_) rfl (fun _ _ _ h => h) ?_ ?_
          rotate_left
          · (intro W hSW; (try dsimp only at hSW); (go_simp <;> with_reducible rfl))
          (try simp only [Act.put, List.setIfInBounds_toArray, List.set_cons_zero, List.set_cons_succ])
          refine wpTree_one ?_
          refine stepT_mk rfl (fun K hK => ?_)
          have g0_ := blkC (v := .slice none 0 0) kh7.out 0 rfl
          have g1_ := blkC (v := .slice none 0 0) kh7.out 1 rfl
          have g2_ := blkC (v := .slice none 0 0) kh7.out 2 rfl
          have g3_ := blkC (v := .slice none 0 0) kh7.out 3 rfl
          have fz := blkF kh7.out
          have kf_ : ((((Y7.setCell ⟨Y2.heap.size, 0, none⟩ (.slice as00 R.1.sites.length cs00)).setCell ⟨Y2.heap.size, 1, none⟩ (.slice as01 R.1.sectors.length cs01)).setCell ⟨Y2.heap.size, 2, none⟩ (.slice as02 R.1.antennas.length cs02)).setCell ⟨Y2.heap.size, 3, none⟩ (.slice as03 R.1.radios.length cs03)).heap[Y2.heap.size]? = some (.cells #[.slice as00 R.1.sites.length cs00, .slice as01 R.1.sectors.length cs01, .slice as02 R.1.antennas.length cs02, .slice as03 R.1.radios.length cs03] 35 (0, 0)) := by
            have h_ := blkS (blkS (blkS (blkS (kh7.out) 0 (.slice as00 R.1.sites.length cs00)) 1 (.slice as01 R.1.sectors.length cs01)) 2 (.slice as02 R.1.antennas.length cs02)) 3 (.slice as03 R.1.radios.length cs03)
            simpa using h_
          have KF := Lib.hid kf_
          clear kf_
          have BF := Lib.hid (((((BY7.out).setCell (p := ⟨Y2.heap.size, 0, none⟩) (by show w2.heap.size ≤ Y2.heap.size; omega) (.slice as00 R.1.sites.length cs00)).setCell (p := ⟨Y2.heap.size, 1, none⟩) (by show w2.heap.size ≤ Y2.heap.size; omega) (.slice as01 R.1.sectors.length cs01)).setCell (p := ⟨Y2.heap.size, 2, none⟩) (by show w2.heap.size ≤ Y2.heap.size; omega) (.slice as02 R.1.antennas.length cs02)).setCell (p := ⟨Y2.heap.size, 3, none⟩) (by show w2.heap.size ≤ Y2.heap.size; omega) (.slice as03 R.1.radios.length cs03))
          have OF := Lib.hid (((((OR7.out).setFar (p := ⟨Y2.heap.size, 0, none⟩) (fun e => by have := ir _ e; simp only at this; omega) (.slice as00 R.1.sites.length cs00)).setFar (p := ⟨Y2.heap.size, 1, none⟩) (fun e => by have := ir _ e; simp only at this; omega) (.slice as01 R.1.sectors.length cs01)).setFar (p := ⟨Y2.heap.size, 2, none⟩) (fun e => by have := ir _ e; simp only at this; omega) (.slice as02 R.1.antennas.length cs02)).setFar (p := ⟨Y2.heap.size, 3, none⟩) (fun e => by have := ir _ e; simp only at this; omega) (.slice as03 R.1.radios.length cs03))
          have zs8 : Y7.heap.size ≤ ((((Y7.setCell ⟨Y2.heap.size, 0, none⟩ (.slice as00 R.1.sites.length cs00)).setCell ⟨Y2.heap.size, 1, none⟩ (.slice as01 R.1.sectors.length cs01)).setCell ⟨Y2.heap.size, 2, none⟩ (.slice as02 R.1.antennas.length cs02)).setCell ⟨Y2.heap.size, 3, none⟩ (.slice as03 R.1.radios.length cs03)).heap.size := by simp only [size_setCell]; omega
          go_simp
          refine hK.out _ _ (HKB.out _ BF.out) ?_
          clear hK K fz g0_ g1_ g2_ g3_
          (try simp only [Act.put, List.setIfInBounds_toArray, List.set_cons_zero, List.set_cons_succ])
          generalize ((((Y7.setCell ⟨Y2.heap.size, 0, none⟩ (.slice as00 R.1.sites.length cs00)).setCell ⟨Y2.heap.size, 1, none⟩ (.slice as01 R.1.sectors.length cs01)).setCell ⟨Y2.heap.size, 2, none⟩ (.slice as02 R.1.antennas.length cs02)).setCell ⟨Y2.heap.size, 3, none⟩ (.slice as03 R.1.radios.length cs03)) = Y8 at *
          refine wpTree_nil ?_
          simp only [List.drop_succ_cons, List.drop_zero]
          go_wp2_with fail
          go_meet
          exact ⟨_, as00, cs00, as01, cs01, as02, cs02, as03, cs03, fs0, _, _, rfl, rfl, KF.out, by omega, by omega, BF.out, OF.out, ir, by omega, by omega, by omega⟩
      · refine stepT_mk rfl (fun K hK => ?_)
        go_simp
        have hb9 : Below Y1.heap.size Y1 (Y1.alloc (.cells #[.slice none 0 0, .slice none 0 0, .slice none 0 0, .slice none 0 0] 35)) := (Below.refl _ _).alloc (Nat.le_refl _) _
        have kh9 := Lib.hid (blkN Y1 #[.slice none 0 0, .slice none 0 0, .slice none 0 0, .slice none 0 0] 35)
        have zl9 : Y1.heap.size + 1 ≤ (Y1.alloc (.cells #[.slice none 0 0, .slice none 0 0, .slice none 0 0, .slice none 0 0] 35)).heap.size := by simp
        refine hK.out _ _ (HKB.out _ (BY1.out.trans (hb9.mono (by omega)))) ?_
        clear hK K
        (try simp only [Act.put, List.setIfInBounds_toArray, List.set_cons_zero, List.set_cons_succ])
        generalize (Y1.alloc (.cells #[.slice none 0 0, .slice none 0 0, .slice none 0 0, .slice none 0 0] 35)) = Y9 at *
        have bs9 : Y1.heap.size ≤ Y9.heap.size := hb9.size
        have BY9 := Lib.hid (BY1.out.trans (hb9.mono (by omega)))
        have OT9_nw := Lib.hid (OT1.out.below itnw (by omega) hb9)
        clear hb9
        refine wpTree_one ?_
        refine stepT_mk rfl (fun K hK => ?_)
        go_simp
        refine (to_Sector x _).mono ?_
        rintro e Y10 ⟨rfl, hb10⟩
        refine hK.out _ _ (HKB.out _ (BY9.out.trans (hb10.mono (by omega)))) ?_
        clear hK K
        (try simp only [Act.put, List.setIfInBounds_toArray, List.set_cons_zero, List.set_cons_succ])
        have bs10 : Y9.heap.size ≤ Y10.heap.size := hb10.size
        have BY10 := Lib.hid (BY9.out.trans (hb10.mono (by omega)))
        have kh10 := Lib.hid (blkB kh9.out hb10 (by omega))
        have OT10_nw := Lib.hid (OT9_nw.out.below itnw (by omega) hb10)
        clear hb10
        refine wpTree_one ?_
        refine stepT_mk rfl (fun K hK => ?_)
        go_simp
        refine (HS.out _ _ _ _ _ (((OT10_nw.out.rd itnw).1).mono (by omega)) (((OT10_nw.out.rd itnw).2.1).mono (by omega)) (((OT10_nw.out.rd itnw).2.2.1).mono (by omega)) (((OT10_nw.out.rd itnw).2.2.2.1).mono (by omega)) (by omega) (by omega)).mono ?_
        rintro e Y11 ⟨as00, cs00, as01, cs01, as02, cs02, as03, cs03, fs0, rfl, hb11, ov11, iv11⟩
        refine hK.out _ _ (HKB.out _ (BY10.out.trans (hb11.mono (by omega)))) ?_
        clear hK K
        (try simp only [Act.put, List.setIfInBounds_toArray, List.set_cons_zero, List.set_cons_succ])
        have OR11 := Lib.hid ov11
        have ir := iv11
        clear ov11 iv11
        have bs11 : Y10.heap.size ≤ Y11.heap.size := hb11.size
        have BY11 := Lib.hid (BY10.out.trans (hb11.mono (by omega)))
        have kh11 := Lib.hid (blkB kh10.out hb11 (by omega))
        clear hb11
        refine wpTree_read (v := ?_) rfl (fun _ _ _ h => h) ?_ ?_
        rotate_left
        · (intro W hSW; (try dsimp only at hSW); (go_simp <;> with_reducible rfl))
        (try simp only [Act.put, List.setIfInBounds_toArray, List.set_cons_zero, List.set_cons_succ])
        refine wpTree_read (v := ?_) rfl (fun _ _ _ h => h) ?_ ?_
        rotate_left
        · (intro W hSW; (try dsimp only at hSW); (go_simp <;> with_reducible rfl))
        (try simp only [Act.put, List.setIfInBounds_toArray, List.set_cons_zero, List.set_cons_succ])
        refine wpTree_read (v := ?_) rfl (fun _ _ _ h => h) ?_ ?_
        rotate_left
        · (intro W hSW; (try dsimp only at hSW); (go_simp <;> with_reducible rfl))
        (try simp only [Act.put, List.setIfInBounds_toArray, List.set_cons_zero, List.set_cons_succ])
        refine wpTree_one ?_
        refine stepT_mk rfl (fun K hK => ?_)
        have g0_ := blkC (v := .slice none 0 0) kh11.out 0 rfl
        have g1_ := blkC (v := .slice none 0 0) kh11.out 1 rfl
        have g2_ := blkC (v := .slice none 0 0) kh11.out 2 rfl
        have g3_ := blkC (v := .slice none 0 0) kh11.out 3 rfl
        have fz := blkF kh11.out
        have kf_ : ((((Y11.setCell ⟨Y1.heap.size, 0, none⟩ (.slice as00 R.1.sites.length cs00)).setCell ⟨Y1.heap.size, 1, none⟩ (.slice as01 R.1.sectors.length cs01)).setCell ⟨Y1.heap.size, 2, none⟩ (.slice as02 R.1.antennas.length cs02)).setCell ⟨Y1.heap.size, 3, none⟩ (.slice as03 R.1.radios.length cs03)).heap[Y1.heap.size]? = some (.cells #[.slice as00 R.1.sites.length cs00, .slice as01 R.1.sectors.length cs01, .slice as02 R.1.antennas.length cs02, .slice as03 R.1.radios.length cs03] 35 (0, 0)) := by
          have h_ := blkS (blkS (blkS (blkS (kh11.out) 0 (.slice as00 R.1.sites.length cs00)) 1 (.slice as01 R.1.sectors.length cs01)) 2 (.slice as02 R.1.antennas.length cs02)) 3 (.slice as03 R.1.radios.length cs03)
          simpa using h_
        have KF := Lib.hid kf_
        clear kf_
        have BF := Lib.hid (((((BY11.out).setCell (p := ⟨Y1.heap.size, 0, none⟩) (by show w2.heap.size ≤ Y1.heap.size; omega) (.slice as00 R.1.sites.length cs00)).setCell (p := ⟨Y1.heap.size, 1, none⟩) (by show w2.heap.size ≤ Y1.heap.size; omega) (.slice as01 R.1.sectors.length cs01)).setCell (p := ⟨Y1.heap.size, 2, none⟩) (by show w2.heap.size ≤ Y1.heap.size; omega) (.slice as02 R.1.antennas.length cs02)).setCell (p := ⟨Y1.heap.size, 3, none⟩) (by show w2.heap.size ≤ Y1.heap.size; omega) (.slice as03 R.1.radios.length cs03))
        have OF := Lib.hid (((((OR11.out).setFar (p := ⟨Y1.heap.size, 0, none⟩) (fun e => by have := ir _ e; simp only at this; omega) (.slice as00 R.1.sites.length cs00)).setFar (p := ⟨Y1.heap.size, 1, none⟩) (fun e => by have := ir _ e; simp only at this; omega) (.slice as01 R.1.sectors.length cs01)).setFar (p := ⟨Y1.heap.size, 2, none⟩) (fun e => by have := ir _ e; simp only at this; omega) (.slice as02 R.1.antennas.length cs02)).setFar (p := ⟨Y1.heap.size, 3, none⟩) (fun e => by have := ir _ e; simp only at this; omega) (.slice as03 R.1.radios.length cs03))
        have zs12 : Y11.heap.size ≤ ((((Y11.setCell ⟨Y1.heap.size, 0, none⟩ (.slice as00 R.1.sites.length cs00)).setCell ⟨Y1.heap.size, 1, none⟩ (.slice as01 R.1.sectors.length cs01)).setCell ⟨Y1.heap.size, 2, none⟩ (.slice as02 R.1.antennas.length cs02)).setCell ⟨Y1.heap.size, 3, none⟩ (.slice as03 R.1.radios.length cs03)).heap.size := by simp only [size_setCell]; omega
        go_simp
        refine hK.out _ _ (HKB.out _ BF.out) ?_
        clear hK K fz g0_ g1_ g2_ g3_
        (try simp only [Act.put, List.setIfInBounds_toArray, List.set_cons_zero, List.set_cons_succ])
        generalize ((((Y11.setCell ⟨Y1.heap.size, 0, none⟩ (.slice as00 R.1.sites.length cs00)).setCell ⟨Y1.heap.size, 1, none⟩ (.slice as01 R.1.sectors.length cs01)).setCell ⟨Y1.heap.size, 2, none⟩ (.slice as02 R.1.antennas.length cs02)).setCell ⟨Y1.heap.size, 3, none⟩ (.slice as03 R.1.radios.length cs03)) = Y12 at *
        refine wpTree_nil ?_
        simp only [List.drop_succ_cons, List.drop_zero]
        go_wp2_with fail
        go_meet
        exact ⟨_, as00, cs00, as01, cs01, as02, cs02, as03, cs03, fs0, _, _, rfl, rfl, KF.out, by omega, by omega, BF.out, OF.out, ir, by omega, by omega, by omega⟩
    · refine stepT_mk rfl (fun K hK => ?_)
      go_simp
      have hb13 : Below Y.heap.size Y (Y.alloc (.cells #[.slice none 0 0, .slice none 0 0, .slice none 0 0, .slice none 0 0] 35)) := (Below.refl _ _).alloc (Nat.le_refl _) _
      have kh13 := Lib.hid (blkN Y #[.slice none 0 0, .slice none 0 0, .slice none 0 0, .slice none 0 0] 35)
      have zl13 : Y.heap.size + 1 ≤ (Y.alloc (.cells #[.slice none 0 0, .slice none 0 0, .slice none 0 0, .slice none 0 0] 35)).heap.size := by simp
      refine hK.out _ _ (HKB.out _ (BBd.out.trans (hb13.mono (by omega)))) ?_
      clear hK K
      (try simp only [Act.put, List.setIfInBounds_toArray, List.set_cons_zero, List.set_cons_succ])
      generalize (Y.alloc (.cells #[.slice none 0 0, .slice none 0 0, .slice none 0 0, .slice none 0 0] 35)) = Y13 at *
      have bs13 : Y.heap.size ≤ Y13.heap.size := hb13.size
      have BY13 := Lib.hid (BBd.out.trans (hb13.mono (by omega)))
      clear hb13
      refine wpTree_one ?_
      refine stepT_mk rfl (fun K hK => ?_)
      go_simp
      refine (to_Network nw _ _ _ _ _ ((Hnw0.out.below (BB2.out.trans (BY13.out.mono (by omega)))).mono (by omega)) ((Hnw1.out.below (BB2.out.trans (BY13.out.mono (by omega)))).mono (by omega)) ((Hnw2.out.below (BB2.out.trans (BY13.out.mono (by omega)))).mono (by omega)) ((Hnw3.out.below (BB2.out.trans (BY13.out.mono (by omega)))).mono (by omega)) (by omega)).mono ?_
      rintro e Y14 ⟨atnw0, ctnw0, atnw1, ctnw1, atnw2, ctnw2, atnw3, ctnw3, ftnw, rfl, hb14, ov14, iv14⟩
      refine hK.out _ _ (HKB.out _ (BY13.out.trans (hb14.mono (by omega)))) ?_
      clear hK K
      (try simp only [Act.put, List.setIfInBounds_toArray, List.set_cons_zero, List.set_cons_succ])
      have OT14 := Lib.hid ov14
      have itnw := iv14
      clear ov14 iv14
      have bs14 : Y13.heap.size ≤ Y14.heap.size := hb14.size
      have BY14 := Lib.hid (BY13.out.trans (hb14.mono (by omega)))
      have kh14 := Lib.hid (blkB kh13.out hb14 (by omega))
      clear hb14
      refine wpTree_one ?_
      refine stepT_mk rfl (fun K hK => ?_)
      go_simp
      refine (to_Sector x _).mono ?_
      rintro e Y15 ⟨rfl, hb15⟩
      refine hK.out _ _ (HKB.out _ (BY14.out.trans (hb15.mono (by omega)))) ?_
      clear hK K
      (try simp only [Act.put, List.setIfInBounds_toArray, List.set_cons_zero, List.set_cons_succ])
      have bs15 : Y14.heap.size ≤ Y15.heap.size := hb15.size
      have BY15 := Lib.hid (BY14.out.trans (hb15.mono (by omega)))
      have kh15 := Lib.hid (blkB kh14.out hb15 (by omega))
      have OT15_nw := Lib.hid (OT14.out.below itnw (by omega) hb15)
      clear hb15
      refine wpTree_one ?_
      refine stepT_mk rfl (fun K hK => ?_)
      go_simp
      refine (HS.out _ _ _ _ _ (((OT15_nw.out.rd itnw).1).mono (by omega)) (((OT15_nw.out.rd itnw).2.1).mono (by omega)) (((OT15_nw.out.rd itnw).2.2.1).mono (by omega)) (((OT15_nw.out.rd itnw).2.2.2.1).mono (by omega)) (by omega) (by omega)).mono ?_
      rintro e Y16 ⟨as00, cs00, as01, cs01, as02, cs02, as03, cs03, fs0, rfl, hb16, ov16, iv16⟩
      refine hK.out _ _ (HKB.out _ (BY15.out.trans (hb16.mono (by omega)))) ?_
      clear hK K
      (try simp only [Act.put, List.setIfInBounds_toArray, List.set_cons_zero, List.set_cons_succ])
      have OR16 := Lib.hid ov16
      have ir := iv16
      clear ov16 iv16
      have bs16 : Y15.heap.size ≤ Y16.heap.size := hb16.size
      have BY16 := Lib.hid (BY15.out.trans (hb16.mono (by omega)))
      have kh16 := Lib.hid (blkB kh15.out hb16 (by omega))
      clear hb16
      refine wpTree_read (v := ?_) rfl (fun _ _ _ h => h) ?_ ?_
      rotate_left
      · (intro W hSW; (try dsimp only at hSW); (go_simp <;> with_reducible rfl))
      (try simp only [Act.put, List.setIfInBounds_toArray, List.set_cons_zero, List.set_cons_succ])
      refine wpTree_read (v := ?_) rfl (fun _ _ _ h => h) ?_ ?_
      rotate_left
      · (intro W hSW; (try dsimp only at hSW); (go_simp <;> with_reducible rfl))
      (try simp only [Act.put, List.setIfInBounds_toArray, List.set_cons_zero, List.set_cons_succ])
      refine wpTree_read (v := ?_) rfl (fun _ _ _ h => h) ?_ ?_
      rotate_left
      · (intro W hSW; (try dsimp only at hSW); (go_simp <;> with_reducible rfl))
      (try simp only [Act.put, List.setIfInBounds_toArray, List.set_cons_zero, List.set_cons_succ])
      refine wpTree_one ?_
      refine stepT_mk rfl (fun K hK => ?_)
      have g0_ := blkC (v := .slice none 0 0) kh16.out 0 rfl
      have g1_ := blkC (v := .slice none 0 0) kh16.out 1 rfl
      have g2_ := blkC (v := .slice none 0 0) kh16.out 2 rfl
      have g3_ := blkC (v := .slice none 0 0) kh16.out 3 rfl
      have fz := blkF kh16.out
      have kf_ : ((((Y16.setCell ⟨Y.heap.size, 0, none⟩ (.slice as00 R.1.sites.length cs00)).setCell ⟨Y.heap.size, 1, none⟩ (.slice as01 R.1.sectors.length cs01)).setCell ⟨Y.heap.size, 2, none⟩ (.slice as02 R.1.antennas.length cs02)).setCell ⟨Y.heap.size, 3, none⟩ (.slice as03 R.1.radios.length cs03)).heap[Y.heap.size]? = some (.cells #[.slice as00 R.1.sites.length cs00, .slice as01 R.1.sectors.length cs01, .slice as02 R.1.antennas.length cs02, .slice as03 R.1.radios.length cs03] 35 (0, 0)) := by
        have h_ := blkS (blkS (blkS (blkS (kh16.out) 0 (.slice as00 R.1.sites.length cs00)) 1 (.slice as01 R.1.sectors.length cs01)) 2 (.slice as02 R.1.antennas.length cs02)) 3 (.slice as03 R.1.radios.length cs03)
        simpa using h_
      have KF := Lib.hid kf_
      clear kf_
      have BF := Lib.hid (((((BY16.out).setCell (p := ⟨Y.heap.size, 0, none⟩) (by show w2.heap.size ≤ Y.heap.size; omega) (.slice as00 R.1.sites.length cs00)).setCell (p := ⟨Y.heap.size, 1, none⟩) (by show w2.heap.size ≤ Y.heap.size; omega) (.slice as01 R.1.sectors.length cs01)).setCell (p := ⟨Y.heap.size, 2, none⟩) (by show w2.heap.size ≤ Y.heap.size; omega) (.slice as02 R.1.antennas.length cs02)).setCell (p := ⟨Y.heap.size, 3, none⟩) (by show w2.heap.size ≤ Y.heap.size; omega) (.slice as03 R.1.radios.length cs03))
      have OF := Lib.hid (((((OR16.out).setFar (p := ⟨Y.heap.size, 0, none⟩) (fun e => by have := ir _ e; simp only at this; omega) (.slice as00 R.1.sites.length cs00)).setFar (p := ⟨Y.heap.size, 1, none⟩) (fun e => by have := ir _ e; simp only at this; omega) (.slice as01 R.1.sectors.length cs01)).setFar (p := ⟨Y.heap.size, 2, none⟩) (fun e => by have := ir _ e; simp only at this; omega) (.slice as02 R.1.antennas.length cs02)).setFar (p := ⟨Y.heap.size, 3, none⟩) (fun e => by have := ir _ e; simp only at this; omega) (.slice as03 R.1.radios.length cs03))
      have zs17 : Y16.heap.size ≤ ((((Y16.setCell ⟨Y.heap.size, 0, none⟩ (.slice as00 R.1.sites.length cs00)).setCell ⟨Y.heap.size, 1, none⟩ (.slice as01 R.1.sectors.length cs01)).setCell ⟨Y.heap.size, 2, none⟩ (.slice as02 R.1.antennas.length cs02)).setCell ⟨Y.heap.size, 3, none⟩ (.slice as03 R.1.radios.length cs03)).heap.size := by simp only [size_setCell]; omega
      go_simp
      refine hK.out _ _ (HKB.out _ BF.out) ?_
      clear hK K fz g0_ g1_ g2_ g3_
      (try simp only [Act.put, List.setIfInBounds_toArray, List.set_cons_zero, List.set_cons_succ])
      generalize ((((Y16.setCell ⟨Y.heap.size, 0, none⟩ (.slice as00 R.1.sites.length cs00)).setCell ⟨Y.heap.size, 1, none⟩ (.slice as01 R.1.sectors.length cs01)).setCell ⟨Y.heap.size, 2, none⟩ (.slice as02 R.1.antennas.length cs02)).setCell ⟨Y.heap.size, 3, none⟩ (.slice as03 R.1.radios.length cs03)) = Y17 at *
      refine wpTree_nil ?_
      simp only [List.drop_succ_cons, List.drop_zero]
      go_wp2_with fail
      go_meet
      exact ⟨_, as00, cs00, as01, cs01, as02, cs02, as03, cs03, fs0, _, _, rfl, rfl, KF.out, by omega, by omega, BF.out, OF.out, ir, by omega, by omega, by omega⟩
  obtain ⟨hs, as00, cs00, as01, cs01, as02, cs02, as03, cs03, fs0, los, his, e0_, e1_, khs, hlos, hhis, hb3, ov3, iv3, hlo2s, hhi2s, hnfs⟩ := hcut
  subst e0_ e1_
  generalize wc = w3 at *
  have fcs0 := blkC (v := .slice as00 R.1.sites.length cs00) khs 0 rfl
  have fcs1 := blkC (v := .slice as01 R.1.sectors.length cs01) khs 1 rfl
  have fcs2 := blkC (v := .slice as02 R.1.antennas.length cs02) khs 2 rfl
  have fcs3 := blkC (v := .slice as03 R.1.radios.length cs03) khs 3 rfl
  clear khs HKB BBd
  have hbb3 : Below w2.heap.size w2 w3 := hb3
  have z3 := hbb3.size
  obtain ⟨qAnw3, _, yAnw3⟩ := bcellAt hb3 (b := w.heap.size) (by first | omega | (simp; done) | (simp; omega))
  obtain ⟨qAx3, _, yAx3⟩ := bcellAt hb3 (b := w.heap.size + 1) (by first | omega | (simp; done) | (simp; omega))
  have BB3 := Lib.hid (BB2.out.trans (hbb3.mono (by omega)))
  clear hbb3
  obtain ⟨g3_0, r3_0, e3_0, p3_0, ov3_0, d3_0⟩ := OwnV.uncons ov3
  obtain ⟨g3_1, r3_1, e3_1, p3_1, ov3_1, d3_1⟩ := OwnV.uncons ov3_0
  obtain ⟨g3_2, r3_2, e3_2, p3_2, ov3_2, d3_2⟩ := OwnV.uncons ov3_1
  obtain ⟨g3_3, r3_3, e3_3, p3_3, ov3_3, d3_3⟩ := OwnV.uncons ov3_2
  have iw3 := iv3
  have hnil3 := ov3_3.rep
  change r3_3 = [] at hnil3
  subst hnil3
  subst e3_3
  subst e3_2
  subst e3_1
  subst e3_0
  have is00 : In _ _ g3_0 := fun y hy => iw3 y (by simp [hy])
  have os00_3 := Lib.hid p3_0
  have is01 : In _ _ g3_1 := fun y hy => iw3 y (by simp [hy])
  have os01_3 := Lib.hid p3_1
  have is02 : In _ _ g3_2 := fun y hy => iw3 y (by simp [hy])
  have os02_3 := Lib.hid p3_2
  have is03 : In _ _ g3_3 := fun y hy => iw3 y (by simp [hy])
  have os03_3 := Lib.hid p3_3
  have djs00_1 : ∀ y ∈ g3_0, y ∉ g3_1 := fun y hy e => d3_0 y hy (by simp [e])
  have djs00_2 : ∀ y ∈ g3_0, y ∉ g3_2 := fun y hy e => d3_0 y hy (by simp [e])
  have djs00_3 : ∀ y ∈ g3_0, y ∉ g3_3 := fun y hy e => d3_0 y hy (by simp [e])
  have djs01_2 : ∀ y ∈ g3_1, y ∉ g3_2 := fun y hy e => d3_1 y hy (by simp [e])
  have djs01_3 : ∀ y ∈ g3_1, y ∉ g3_3 := fun y hy e => d3_1 y hy (by simp [e])
  have djs02_3 : ∀ y ∈ g3_2, y ∉ g3_3 := fun y hy e => d3_2 y hy (by simp [e])
  clear p3_0 ov3_0 d3_0 p3_1 ov3_1 d3_1 p3_2 ov3_2 d3_2 p3_3 ov3_3 d3_3 ov3 iv3 iw3
  go_wp2_with fail
  have BX4 : Hid (Below w.heap.size w w3) := BB3.out
  have zx4 := BX4.out.size
  refine (to_Network nw _ _ _ _ _ ((Hnw0.out.below BX4.out).mono zx4) ((Hnw1.out.below BX4.out).mono zx4) ((Hnw2.out.below BX4.out).mono zx4) ((Hnw3.out.below BX4.out).mono zx4) (by omega)).mono ?_
  rintro e w4 ⟨aunw0, cunw0, aunw1, cunw1, aunw2, cunw2, aunw3, cunw3, funw, rfl, hb4, ov4, iv4⟩
  have hbb4 : Below w3.heap.size w3 w4 := hb4
  have z4 := hbb4.size
  obtain ⟨qAnw4, _, yAnw4⟩ := bcellAt hb4 (b := w.heap.size) (by first | omega | (simp; done) | (simp; omega))
  obtain ⟨qAx4, _, yAx4⟩ := bcellAt hb4 (b := w.heap.size + 1) (by first | omega | (simp; done) | (simp; omega))
  obtain ⟨qS04, _, yS04⟩ := bcellAt hb4 (b := hs) (by first | omega | (simp; done) | (simp; omega))
  have BB4 := Lib.hid (BB3.out.trans (hbb4.mono (by omega)))
  have os00_4 := Lib.hid (os00_3.out.below is00 (by omega) hbb4)
  have os01_4 := Lib.hid (os01_3.out.below is01 (by omega) hbb4)
  have os02_4 := Lib.hid (os02_3.out.below is02 (by omega) hbb4)
  have os03_4 := Lib.hid (os03_3.out.below is03 (by omega) hbb4)
  clear hbb4
  obtain ⟨g4_0, r4_0, e4_0, p4_0, ov4_0, d4_0⟩ := OwnV.uncons ov4
  obtain ⟨g4_1, r4_1, e4_1, p4_1, ov4_1, d4_1⟩ := OwnV.uncons ov4_0
  obtain ⟨g4_2, r4_2, e4_2, p4_2, ov4_2, d4_2⟩ := OwnV.uncons ov4_1
  obtain ⟨g4_3, r4_3, e4_3, p4_3, ov4_3, d4_3⟩ := OwnV.uncons ov4_2
  have iw4 := iv4.mono (lo' := w3.heap.size + 0) (by first | omega | (simp; done) | (simp; omega)) (Nat.le_refl _)
  have hnil4 := ov4_3.rep
  change r4_3 = [] at hnil4
  subst hnil4
  subst e4_3
  subst e4_2
  subst e4_1
  subst e4_0
  have iunw0 : In _ _ g4_0 := fun y hy => iw4 y (by simp [hy])
  have ounw0_4 := Lib.hid p4_0
  have iunw1 : In _ _ g4_1 := fun y hy => iw4 y (by simp [hy])
  have ounw1_4 := Lib.hid p4_1
  have iunw2 : In _ _ g4_2 := fun y hy => iw4 y (by simp [hy])
  have ounw2_4 := Lib.hid p4_2
  have iunw3 : In _ _ g4_3 := fun y hy => iw4 y (by simp [hy])
  have ounw3_4 := Lib.hid p4_3
  have djunw0_1 : ∀ y ∈ g4_0, y ∉ g4_1 := fun y hy e => d4_0 y hy (by simp [e])
  have djunw0_2 : ∀ y ∈ g4_0, y ∉ g4_2 := fun y hy e => d4_0 y hy (by simp [e])
  have djunw0_3 : ∀ y ∈ g4_0, y ∉ g4_3 := fun y hy e => d4_0 y hy (by simp [e])
  have djunw1_2 : ∀ y ∈ g4_1, y ∉ g4_2 := fun y hy e => d4_1 y hy (by simp [e])
  have djunw1_3 : ∀ y ∈ g4_1, y ∉ g4_3 := fun y hy e => d4_1 y hy (by simp [e])
  have djunw2_3 : ∀ y ∈ g4_2, y ∉ g4_3 := fun y hy e => d4_2 y hy (by simp [e])
  clear p4_0 ov4_0 d4_0 p4_1 ov4_1 d4_1 p4_2 ov4_2 d4_2 p4_3 ov4_3 d4_3 ov4 iv4 iw4
  go_wp2
  have hbb5 : Below w4.heap.size w4 (w4.alloc (.cells #[.slice aunw0 nw.sites.length cunw0, .slice aunw1 nw.sectors.length cunw1, .slice aunw2 nw.antennas.length cunw2, .slice aunw3 nw.radios.length cunw3] 35)) := ((Below.refl _ _).alloc (Nat.le_refl _) _)
  have zp5 : w4.heap.size + 1 ≤ (w4.alloc (.cells #[.slice aunw0 nw.sites.length cunw0, .slice aunw1 nw.sectors.length cunw1, .slice aunw2 nw.antennas.length cunw2, .slice aunw3 nw.radios.length cunw3] 35)).heap.size := by simp
  have kbUnw : (w4.alloc (.cells #[.slice aunw0 nw.sites.length cunw0, .slice aunw1 nw.sectors.length cunw1, .slice aunw2 nw.antennas.length cunw2, .slice aunw3 nw.radios.length cunw3] 35)).heap[w4.heap.size]? = some (.cells #[.slice aunw0 nw.sites.length cunw0, .slice aunw1 nw.sectors.length cunw1, .slice aunw2 nw.antennas.length cunw2, .slice aunw3 nw.radios.length cunw3] 35 (0, 0)) := by
    have h_ := blkN w4 #[.slice aunw0 nw.sites.length cunw0, .slice aunw1 nw.sectors.length cunw1, .slice aunw2 nw.antennas.length cunw2, .slice aunw3 nw.radios.length cunw3] 35
    exact h_
  generalize (w4.alloc (.cells #[.slice aunw0 nw.sites.length cunw0, .slice aunw1 nw.sectors.length cunw1, .slice aunw2 nw.antennas.length cunw2, .slice aunw3 nw.radios.length cunw3] 35)) = w5 at *
  have z5 : w4.heap.size ≤ w5.heap.size := hbb5.size
  obtain ⟨qAnw5, _, yAnw5⟩ := bcellAt hbb5 (b := w.heap.size) (by omega)
  obtain ⟨qAx5, _, yAx5⟩ := bcellAt hbb5 (b := w.heap.size + 1) (by omega)
  obtain ⟨qS05, _, yS05⟩ := bcellAt hbb5 (b := hs) (by omega)
  have fbUnw0 := blkC (v := .slice aunw0 nw.sites.length cunw0) kbUnw 0 rfl
  have fbUnw1 := blkC (v := .slice aunw1 nw.sectors.length cunw1) kbUnw 1 rfl
  have fbUnw2 := blkC (v := .slice aunw2 nw.antennas.length cunw2) kbUnw 2 rfl
  have fbUnw3 := blkC (v := .slice aunw3 nw.radios.length cunw3) kbUnw 3 rfl
  clear kbUnw
  have BB5 := Lib.hid (BB4.out.trans (hbb5.mono (by omega)))
  have os00_5 := Lib.hid (os00_4.out.below is00 (by omega) hbb5)
  have os01_5 := Lib.hid (os01_4.out.below is01 (by omega) hbb5)
  have os02_5 := Lib.hid (os02_4.out.below is02 (by omega) hbb5)
  have os03_5 := Lib.hid (os03_4.out.below is03 (by omega) hbb5)
  have ounw0_5 := Lib.hid (ounw0_4.out.below iunw0 (by omega) hbb5)
  have ounw1_5 := Lib.hid (ounw1_4.out.below iunw1 (by omega) hbb5)
  have ounw2_5 := Lib.hid (ounw2_4.out.below iunw2 (by omega) hbb5)
  have ounw3_5 := Lib.hid (ounw3_4.out.below iunw3 (by omega) hbb5)
  clear hbb5
  have hcf : w5.cell? ⟨w4.heap.size, 0, none⟩ = some (.slice aunw0 nw.sites.length cunw0) ∧ w5.cell? ⟨w4.heap.size, 1, none⟩ = some (.slice aunw1 nw.sectors.length cunw1) ∧ w5.cell? ⟨w4.heap.size, 2, none⟩ = some (.slice aunw2 nw.antennas.length cunw2) ∧ w5.cell? ⟨w4.heap.size, 3, none⟩ = some (.slice aunw3 nw.radios.length cunw3) ∧ w5.cell? ⟨w.heap.size + 1, 0, none⟩ = some (.string x.name) ∧ w5.cell? ⟨w.heap.size + 1, 1, none⟩ = some (.string x.site) ∧ w5.cell? ⟨w.heap.size + 1, 2, none⟩ = some (.string x.antenna) ∧ w5.cell? ⟨w.heap.size + 1, 3, none⟩ = some (.string x.radio) ∧ w5.cell? ⟨w.heap.size + 1, 4, none⟩ = some (.string x.band) ∧ w5.cell? ⟨w.heap.size + 1, 5, none⟩ = some (.int .i64 x.azimuth) ∧ w5.cell? ⟨w.heap.size + 1, 6, none⟩ = some (.int .i64 x.tilt) ∧ w5.cell? ⟨w.heap.size + 1, 7, none⟩ = some (.int .i64 x.above) ∧ w5.cell? ⟨w.heap.size + 1, 8, none⟩ = some (.int .i64 x.channel) := by refine ⟨?_, ?_, ?_, ?_, ?_, ?_, ?_, ?_, ?_, ?_, ?_, ?_, ?_⟩ <;> simp [go_sem, *]
  have HKB : Hid (∀ W : World, Below w5.heap.size w5 W → W.cell? ⟨w4.heap.size, 0, none⟩ = some (.slice aunw0 nw.sites.length cunw0) ∧ W.cell? ⟨w4.heap.size, 1, none⟩ = some (.slice aunw1 nw.sectors.length cunw1) ∧ W.cell? ⟨w4.heap.size, 2, none⟩ = some (.slice aunw2 nw.antennas.length cunw2) ∧ W.cell? ⟨w4.heap.size, 3, none⟩ = some (.slice aunw3 nw.radios.length cunw3) ∧ W.cell? ⟨w.heap.size + 1, 0, none⟩ = some (.string x.name) ∧ W.cell? ⟨w.heap.size + 1, 1, none⟩ = some (.string x.site) ∧ W.cell? ⟨w.heap.size + 1, 2, none⟩ = some (.string x.antenna) ∧ W.cell? ⟨w.heap.size + 1, 3, none⟩ = some (.string x.radio) ∧ W.cell? ⟨w.heap.size + 1, 4, none⟩ = some (.string x.band) ∧ W.cell? ⟨w.heap.size + 1, 5, none⟩ = some (.int .i64 x.azimuth) ∧ W.cell? ⟨w.heap.size + 1, 6, none⟩ = some (.int .i64 x.tilt) ∧ W.cell? ⟨w.heap.size + 1, 7, none⟩ = some (.int .i64 x.above) ∧ W.cell? ⟨w.heap.size + 1, 8, none⟩ = some (.int .i64 x.channel)) := fun W hW => by
    obtain ⟨e0, e1, e2, e3, e4, e5, e6, e7, e8, e9, e10, e11, e12⟩ := hcf
    exact ⟨(bat hW _ _ (by omega)).trans e0, (bat hW _ _ (by omega)).trans e1, (bat hW _ _ (by omega)).trans e2, (bat hW _ _ (by omega)).trans e3, (bat hW _ _ (by omega)).trans e4, (bat hW _ _ (by omega)).trans e5, (bat hW _ _ (by omega)).trans e6, (bat hW _ _ (by omega)).trans e7, (bat hW _ _ (by omega)).trans e8, (bat hW _ _ (by omega)).trans e9, (bat hW _ _ (by omega)).trans e10, (bat hW _ _ (by omega)).trans e11, (bat hW _ _ (by omega)).trans e12⟩
  clear hcf
  have BBd : Hid (Below w5.heap.size w5 w5.drew) := (Below.refl _ _).drew
  go_cut [9, 10] (fun s0 s1 wx => ∃ (hg : Nat) (ag00 : Option Addr) (cg00 : Nat) (ag01 : Option Addr) (cg01 : Nat) (ag02 : Option Addr) (cg02 : Nat) (ag03 : Option Addr) (cg03 : Nat) (fg0 : List Nat) (log hig : Nat), s0 = .pointer (some ⟨hg, 0, none⟩) ∧ s1 = .int .i64 R.2 ∧ wx.heap[hg]? = some (.cells #[.slice ag00 R.1.sites.length cg00, .slice ag01 R.1.sectors.length cg01, .slice ag02 R.1.antennas.length cg02, .slice ag03 R.1.radios.length cg03] 35 (0, 0)) ∧ w5.heap.size ≤ hg ∧ hg < wx.heap.size ∧ Below w5.heap.size w5 wx ∧ OwnV wx R.1.tr [.slice ag00 R.1.sites.length cg00, .slice ag01 R.1.sectors.length cg01, .slice ag02 R.1.antennas.length cg02, .slice ag03 R.1.radios.length cg03] fg0 ∧ In log hig fg0 ∧ w5.heap.size ≤ log ∧ hig ≤ wx.heap.size ∧ (hg < log ∨ hig ≤ hg))
  case first =>
    refine wp_region_tree 9 (.read 0 (.read 1 (.two 2 7 (.two 3 7 (.read 4 (.read 5 (.read 6 (.one 7 (.one 8 .nil))))) (.one 3 (.read 4 (.read 5 (.read 6 (.one 8 .nil)))))) (.one 2 (.one 3 (.read 4 (.read 5 (.read 6 (.one 8 .nil))))))))) (fun W => W.cell? ⟨w4.heap.size, 0, none⟩ = some (.slice aunw0 nw.sites.length cunw0) ∧ W.cell? ⟨w4.heap.size, 1, none⟩ = some (.slice aunw1 nw.sectors.length cunw1) ∧ W.cell? ⟨w4.heap.size, 2, none⟩ = some (.slice aunw2 nw.antennas.length cunw2) ∧ W.cell? ⟨w4.heap.size, 3, none⟩ = some (.slice aunw3 nw.radios.length cunw3) ∧ W.cell? ⟨w.heap.size + 1, 0, none⟩ = some (.string x.name) ∧ W.cell? ⟨w.heap.size + 1, 1, none⟩ = some (.string x.site) ∧ W.cell? ⟨w.heap.size + 1, 2, none⟩ = some (.string x.antenna) ∧ W.cell? ⟨w.heap.size + 1, 3, none⟩ = some (.string x.radio) ∧ W.cell? ⟨w.heap.size + 1, 4, none⟩ = some (.string x.band) ∧ W.cell? ⟨w.heap.size + 1, 5, none⟩ = some (.int .i64 x.azimuth) ∧ W.cell? ⟨w.heap.size + 1, 6, none⟩ = some (.int .i64 x.tilt) ∧ W.cell? ⟨w.heap.size + 1, 7, none⟩ = some (.int .i64 x.above) ∧ W.cell? ⟨w.heap.size + 1, 8, none⟩ = some (.int .i64 x.channel)) (by kernel_rfl) (by kernel_rfl) (HKB.out _ BBd.out) ?_
    have zd : w5.heap.size ≤ w5.drew.heap.size := Nat.le_refl _
    generalize w5.drew = Y at *
    refine wpTree_read (v := ?_) rfl (fun _ _ _ h => h) ?_ ?_
    rotate_left
    · (intro W hSW; (try dsimp only at hSW); (go_simp <;> with_reducible rfl))
    (try simp only [Act.put, List.setIfInBounds_toArray, List.set_cons_zero, List.set_cons_succ])
    refine wpTree_read (v := ?_) rfl (fun _ _ _ h => h) ?_ ?_
    rotate_left
    · (intro W hSW; (try dsimp only at hSW); (go_simp <;> with_reducible rfl))
    (try simp only [Act.put, List.setIfInBounds_toArray, List.set_cons_zero, List.set_cons_succ])
    refine wpTree_two ?_ ?_
    · refine stepT_mk rfl (fun K hK => ?_)
      go_simp
      refine (to_Sector x _).mono ?_
      rintro e Y1 ⟨rfl, hb1⟩
      refine hK.out _ _ (HKB.out _ (BBd.out.trans (hb1.mono (by omega)))) ?_
      clear hK K
      (try simp only [Act.put, List.setIfInBounds_toArray, List.set_cons_zero, List.set_cons_succ])
      have bs1 : Y.heap.size ≤ Y1.heap.size := hb1.size
      have BY1 := Lib.hid (BBd.out.trans (hb1.mono (by omega)))
      clear hb1
      refine wpTree_two ?_ ?_
      · refine stepT_mk rfl (fun K hK => ?_)
        go_simp
        refine (HI.out _ _ _ _ _ (((ounw0_5.out.below iunw0 (by omega) BY1.out).rd iunw0).mono (by omega)) (((ounw1_5.out.below iunw1 (by omega) BY1.out).rd iunw1).mono (by omega)) (((ounw2_5.out.below iunw2 (by omega) BY1.out).rd iunw2).mono (by omega)) (((ounw3_5.out.below iunw3 (by omega) BY1.out).rd iunw3).mono (by omega)) (by omega) (by omega)).mono ?_
        rintro e Y2 ⟨ag00, cg00, ag01, cg01, ag02, cg02, ag03, cg03, fg0, rfl, hb2, ov2, iv2⟩
        refine hK.out _ _ (HKB.out _ (BY1.out.trans (hb2.mono (by omega)))) ?_
        clear hK K
        (try simp only [Act.put, List.setIfInBounds_toArray, List.set_cons_zero, List.set_cons_succ])
        have OR2 := Lib.hid ov2
        have ir := iv2
        clear ov2 iv2
        have bs2 : Y1.heap.size ≤ Y2.heap.size := hb2.size
        have BY2 := Lib.hid (BY1.out.trans (hb2.mono (by omega)))
        clear hb2
        refine wpTree_read (v := ?_) rfl (fun _ _ _ h => h) ?_ ?_
        rotate_left
        · (intro W hSW; (try dsimp only at hSW); (go_simp <;> with_reducible rfl))
        (try simp only [Act.put, List.setIfInBounds_toArray, List.set_cons_zero, List.set_cons_succ])
        refine wpTree_read (v := ?_) rfl (fun _ _ _ h => h) ?_ ?_
        rotate_left
        · (intro W hSW; (try dsimp only at hSW); (go_simp <;> with_reducible rfl))
        (try simp only [Act.put, List.setIfInBounds_toArray, List.set_cons_zero, List.set_cons_succ])
        refine wpTree_read (v := ?_) rfl (fun _ _ _ h => h) ?_ ?_
        rotate_left
        · (intro W hSW; (try dsimp only at hSW); (go_simp <;> with_reducible rfl))
        (try simp only [Act.put, List.setIfInBounds_toArray, List.set_cons_zero, List.set_cons_succ])
        refine wpTree_one ?_
        refine stepT_mk rfl (fun K hK => ?_)
        go_simp
        have hb3 : Below Y2.heap.size Y2 (Y2.alloc (.cells #[.slice none 0 0, .slice none 0 0, .slice none 0 0, .slice none 0 0] 35)) := (Below.refl _ _).alloc (Nat.le_refl _) _
        have kh3 := Lib.hid (blkN Y2 #[.slice none 0 0, .slice none 0 0, .slice none 0 0, .slice none 0 0] 35)
        have zl3 : Y2.heap.size + 1 ≤ (Y2.alloc (.cells #[.slice none 0 0, .slice none 0 0, .slice none 0 0, .slice none 0 0] 35)).heap.size := by simp
        refine hK.out _ _ (HKB.out _ (BY2.out.trans (hb3.mono (by omega)))) ?_
        clear hK K
        (try simp only [Act.put, List.setIfInBounds_toArray, List.set_cons_zero, List.set_cons_succ])
        generalize (Y2.alloc (.cells #[.slice none 0 0, .slice none 0 0, .slice none 0 0, .slice none 0 0] 35)) = Y3 at *
        have bs3 : Y2.heap.size ≤ Y3.heap.size := hb3.size
        have BY3 := Lib.hid (BY2.out.trans (hb3.mono (by omega)))
        have OR3 := Lib.hid (OR2.out.below ir (by omega) hb3)
        clear hb3
        refine wpTree_one ?_
        refine stepT_mk rfl (fun K hK => ?_)
        have g0_ := blkC (v := .slice none 0 0) kh3.out 0 rfl
        have g1_ := blkC (v := .slice none 0 0) kh3.out 1 rfl
        have g2_ := blkC (v := .slice none 0 0) kh3.out 2 rfl
        have g3_ := blkC (v := .slice none 0 0) kh3.out 3 rfl
        have fz := blkF kh3.out
        have kf_ : ((((Y3.setCell ⟨Y2.heap.size, 0, none⟩ (.slice ag00 R.1.sites.length cg00)).setCell ⟨Y2.heap.size, 1, none⟩ (.slice ag01 R.1.sectors.length cg01)).setCell ⟨Y2.heap.size, 2, none⟩ (.slice ag02 R.1.antennas.length cg02)).setCell ⟨Y2.heap.size, 3, none⟩ (.slice ag03 R.1.radios.length cg03)).heap[Y2.heap.size]? = some (.cells #[.slice ag00 R.1.sites.length cg00, .slice ag01 R.1.sectors.length cg01, .slice ag02 R.1.antennas.length cg02, .slice ag03 R.1.radios.length cg03] 35 (0, 0)) := by
          have h_ := blkS (blkS (blkS (blkS (kh3.out) 0 (.slice ag00 R.1.sites.length cg00)) 1 (.slice ag01 R.1.sectors.length cg01)) 2 (.slice ag02 R.1.antennas.length cg02)) 3 (.slice ag03 R.1.radios.length cg03)
          simpa using h_
        have KF := Lib.hid kf_
        clear kf_
        have BF := Lib.hid (((((BY3.out).setCell (p := ⟨Y2.heap.size, 0, none⟩) (by show w5.heap.size ≤ Y2.heap.size; omega) (.slice ag00 R.1.sites.length cg00)).setCell (p := ⟨Y2.heap.size, 1, none⟩) (by show w5.heap.size ≤ Y2.heap.size; omega) (.slice ag01 R.1.sectors.length cg01)).setCell (p := ⟨Y2.heap.size, 2, none⟩) (by show w5.heap.size ≤ Y2.heap.size; omega) (.slice ag02 R.1.antennas.length cg02)).setCell (p := ⟨Y2.heap.size, 3, none⟩) (by show w5.heap.size ≤ Y2.heap.size; omega) (.slice ag03 R.1.radios.length cg03))
        have OF := Lib.hid (((((OR3.out).setFar (p := ⟨Y2.heap.size, 0, none⟩) (fun e => by have := ir _ e; simp only at this; omega) (.slice ag00 R.1.sites.length cg00)).setFar (p := ⟨Y2.heap.size, 1, none⟩) (fun e => by have := ir _ e; simp only at this; omega) (.slice ag01 R.1.sectors.length cg01)).setFar (p := ⟨Y2.heap.size, 2, none⟩) (fun e => by have := ir _ e; simp only at this; omega) (.slice ag02 R.1.antennas.length cg02)).setFar (p := ⟨Y2.heap.size, 3, none⟩) (fun e => by have := ir _ e; simp only at this; omega) (.slice ag03 R.1.radios.length cg03))
        have zs4 : Y3.heap.size ≤ ((((Y3.setCell ⟨Y2.heap.size, 0, none⟩ (.slice ag00 R.1.sites.length cg00)).setCell ⟨Y2.heap.size, 1, none⟩ (.slice ag01 R.1.sectors.length cg01)).setCell ⟨Y2.heap.size, 2, none⟩ (.slice ag02 R.1.antennas.length cg02)).setCell ⟨Y2.heap.size, 3, none⟩ (.slice ag03 R.1.radios.length cg03)).heap.size := by simp only [size_setCell]; omega
        go_simp
        refine hK.out _ _ (HKB.out _ BF.out) ?_
        clear hK K fz g0_ g1_ g2_ g3_
        (try simp only [Act.put, List.setIfInBounds_toArray, List.set_cons_zero, List.set_cons_succ])
        generalize ((((Y3.setCell ⟨Y2.heap.size, 0, none⟩ (.slice ag00 R.1.sites.length cg00)).setCell ⟨Y2.heap.size, 1, none⟩ (.slice ag01 R.1.sectors.length cg01)).setCell ⟨Y2.heap.size, 2, none⟩ (.slice ag02 R.1.antennas.length cg02)).setCell ⟨Y2.heap.size, 3, none⟩ (.slice ag03 R.1.radios.length cg03)) = Y4 at *
        refine wpTree_nil ?_
        simp only [List.drop_succ_cons, List.drop_zero]
        go_wp2_with fail
        go_meet
        exact ⟨_, ag00, cg00, ag01, cg01, ag02, cg02, ag03, cg03, fg0, _, _, rfl, rfl, KF.out, by omega, by omega, BF.out, OF.out, ir, by omega, by omega, by omega⟩
      · refine stepT_mk rfl (fun K hK => ?_)
        go_simp
        have hb5 : Below Y1.heap.size Y1 (Y1.alloc (.cells #[.slice none 0 0, .slice none 0 0, .slice none 0 0, .slice none 0 0] 35)) := (Below.refl _ _).alloc (Nat.le_refl _) _
        have kh5 := Lib.hid (blkN Y1 #[.slice none 0 0, .slice none 0 0, .slice none 0 0, .slice none 0 0] 35)
        have zl5 : Y1.heap.size + 1 ≤ (Y1.alloc (.cells #[.slice none 0 0, .slice none 0 0, .slice none 0 0, .slice none 0 0] 35)).heap.size := by simp
        refine hK.out _ _ (HKB.out _ (BY1.out.trans (hb5.mono (by omega)))) ?_
        clear hK K
        (try simp only [Act.put, List.setIfInBounds_toArray, List.set_cons_zero, List.set_cons_succ])
        generalize (Y1.alloc (.cells #[.slice none 0 0, .slice none 0 0, .slice none 0 0, .slice none 0 0] 35)) = Y5 at *
        have bs5 : Y1.heap.size ≤ Y5.heap.size := hb5.size
        have BY5 := Lib.hid (BY1.out.trans (hb5.mono (by omega)))
        clear hb5
        refine wpTree_one ?_
        refine stepT_mk rfl (fun K hK => ?_)
        go_simp
        refine (HI.out _ _ _ _ _ (((ounw0_5.out.below iunw0 (by omega) BY5.out).rd iunw0).mono (by omega)) (((ounw1_5.out.below iunw1 (by omega) BY5.out).rd iunw1).mono (by omega)) (((ounw2_5.out.below iunw2 (by omega) BY5.out).rd iunw2).mono (by omega)) (((ounw3_5.out.below iunw3 (by omega) BY5.out).rd iunw3).mono (by omega)) (by omega) (by omega)).mono ?_
        rintro e Y6 ⟨ag00, cg00, ag01, cg01, ag02, cg02, ag03, cg03, fg0, rfl, hb6, ov6, iv6⟩
        refine hK.out _ _ (HKB.out _ (BY5.out.trans (hb6.mono (by omega)))) ?_
        clear hK K
        (try simp only [Act.put, List.setIfInBounds_toArray, List.set_cons_zero, List.set_cons_succ])
        have OR6 := Lib.hid ov6
        have ir := iv6
        clear ov6 iv6
        have bs6 : Y5.heap.size ≤ Y6.heap.size := hb6.size
        have BY6 := Lib.hid (BY5.out.trans (hb6.mono (by omega)))
        have kh6 := Lib.hid (blkB kh5.out hb6 (by omega))
        clear hb6
        refine wpTree_read (v := ?_) rfl (fun _ _ _ h => h) ?_ ?_
        rotate_left
        · (intro W hSW; (try dsimp only at hSW); (go_simp <;> with_reducible rfl))
        (try simp only [Act.put, List.setIfInBounds_toArray, List.set_cons_zero, List.set_cons_succ])
        refine wpTree_read (v := ?_) rfl (fun _ _ _ h => h) ?_ ?_
        rotate_left
        · (intro W hSW; (try dsimp only at hSW); (go_simp <;> with_reducible rfl))
        (try simp only [Act.put, List.setIfInBounds_toArray, List.set_cons_zero, List.set_cons_succ])
        refine wpTree_read (v := ?_) rfl (fun _ _ _ h => h) ?_ ?_
        rotate_left
        · (intro W hSW; (try dsimp only at hSW); (go_simp <;> with_reducible rfl))
        (try simp only [Act.put, List.setIfInBounds_toArray, List.set_cons_zero, List.set_cons_succ])
        refine wpTree_one ?_
        refine stepT_mk rfl (fun K hK => ?_)
        have g0_ := blkC (v := .slice none 0 0) kh6.out 0 rfl
        have g1_ := blkC (v := .slice none 0 0) kh6.out 1 rfl
        have g2_ := blkC (v := .slice none 0 0) kh6.out 2 rfl
        have g3_ := blkC (v := .slice none 0 0) kh6.out 3 rfl
        have fz := blkF kh6.out
        have kf_ : ((((Y6.setCell ⟨Y1.heap.size, 0, none⟩ (.slice ag00 R.1.sites.length cg00)).setCell ⟨Y1.heap.size, 1, none⟩ (.slice ag01 R.1.sectors.length cg01)).setCell ⟨Y1.heap.size, 2, none⟩ (.slice ag02 R.1.antennas.length cg02)).setCell ⟨Y1.heap.size, 3, none⟩ (.slice ag03 R.1.radios.length cg03)).heap[Y1.heap.size]? = some (.cells #[.slice ag00 R.1.sites.length cg00, .slice ag01 R.1.sectors.length cg01, .slice ag02 R.1.antennas.length cg02, .slice ag03 R.1.radios.length cg03] 35 (0, 0)) := by
          have h_ := blkS (blkS (blkS (blkS (kh6.out) 0 (.slice ag00 R.1.sites.length cg00)) 1 (.slice ag01 R.1.sectors.length cg01)) 2 (.slice ag02 R.1.antennas.length cg02)) 3 (.slice ag03 R.1.radios.length cg03)
          simpa using h_
        have KF := Lib.hid kf_
        clear kf_
        have BF := Lib.hid (((((BY6.out).setCell (p := ⟨Y1.heap.size, 0, none⟩) (by show w5.heap.size ≤ Y1.heap.size; omega) (.slice ag00 R.1.sites.length cg00)).setCell (p := ⟨Y1.heap.size, 1, none⟩) (by show w5.heap.size ≤ Y1.heap.size; omega) (.slice ag01 R.1.sectors.length cg01)).setCell (p := ⟨Y1.heap.size, 2, none⟩) (by show w5.heap.size ≤ Y1.heap.size; omega) (.slice ag02 R.1.antennas.length cg02)).setCell (p := ⟨Y1.heap.size, 3, none⟩) (by show w5.heap.size ≤ Y1.heap.size; omega) (.slice ag03 R.1.radios.length cg03))
        have OF := Lib.hid (((((OR6.out).setFar (p := ⟨Y1.heap.size, 0, none⟩) (fun e => by have := ir _ e; simp only at this; omega) (.slice ag00 R.1.sites.length cg00)).setFar (p := ⟨Y1.heap.size, 1, none⟩) (fun e => by have := ir _ e; simp only at this; omega) (.slice ag01 R.1.sectors.length cg01)).setFar (p := ⟨Y1.heap.size, 2, none⟩) (fun e => by have := ir _ e; simp only at this; omega) (.slice ag02 R.1.antennas.length cg02)).setFar (p := ⟨Y1.heap.size, 3, none⟩) (fun e => by have := ir _ e; simp only at this; omega) (.slice ag03 R.1.radios.length cg03))
        have zs7 : Y6.heap.size ≤ ((((Y6.setCell ⟨Y1.heap.size, 0, none⟩ (.slice ag00 R.1.sites.length cg00)).setCell ⟨Y1.heap.size, 1, none⟩ (.slice ag01 R.1.sectors.length cg01)).setCell ⟨Y1.heap.size, 2, none⟩ (.slice ag02 R.1.antennas.length cg02)).setCell ⟨Y1.heap.size, 3, none⟩ (.slice ag03 R.1.radios.length cg03)).heap.size := by simp only [size_setCell]; omega
        go_simp
        refine hK.out _ _ (HKB.out _ BF.out) ?_
        clear hK K fz g0_ g1_ g2_ g3_
        (try simp only [Act.put, List.setIfInBounds_toArray, List.set_cons_zero, List.set_cons_succ])
        generalize ((((Y6.setCell ⟨Y1.heap.size, 0, none⟩ (.slice ag00 R.1.sites.length cg00)).setCell ⟨Y1.heap.size, 1, none⟩ (.slice ag01 R.1.sectors.length cg01)).setCell ⟨Y1.heap.size, 2, none⟩ (.slice ag02 R.1.antennas.length cg02)).setCell ⟨Y1.heap.size, 3, none⟩ (.slice ag03 R.1.radios.length cg03)) = Y7 at *
        refine wpTree_nil ?_
        simp only [List.drop_succ_cons, List.drop_zero]
        go_wp2_with fail
        go_meet
        exact ⟨_, ag00, cg00, ag01, cg01, ag02, cg02, ag03, cg03, fg0, _, _, rfl, rfl, KF.out, by omega, by omega, BF.out, OF.out, ir, by omega, by omega, by omega⟩
    · refine stepT_mk rfl (fun K hK => ?_)
      go_simp
      have hb8 : Below Y.heap.size Y (Y.alloc (.cells #[.slice none 0 0, .slice none 0 0, .slice none 0 0, .slice none 0 0] 35)) := (Below.refl _ _).alloc (Nat.le_refl _) _
      have kh8 := Lib.hid (blkN Y #[.slice none 0 0, .slice none 0 0, .slice none 0 0, .slice none 0 0] 35)
      have zl8 : Y.heap.size + 1 ≤ (Y.alloc (.cells #[.slice none 0 0, .slice none 0 0, .slice none 0 0, .slice none 0 0] 35)).heap.size := by simp
      refine hK.out _ _ (HKB.out _ (BBd.out.trans (hb8.mono (by omega)))) ?_
      clear hK K
      (try simp only [Act.put, List.setIfInBounds_toArray, List.set_cons_zero, List.set_cons_succ])
      generalize (Y.alloc (.cells #[.slice none 0 0, .slice none 0 0, .slice none 0 0, .slice none 0 0] 35)) = Y8 at *
      have bs8 : Y.heap.size ≤ Y8.heap.size := hb8.size
      have BY8 := Lib.hid (BBd.out.trans (hb8.mono (by omega)))
      clear hb8
      refine wpTree_one ?_
      refine stepT_mk rfl (fun K hK => ?_)
      go_simp
      refine (to_Sector x _).mono ?_
      rintro e Y9 ⟨rfl, hb9⟩
      refine hK.out _ _ (HKB.out _ (BY8.out.trans (hb9.mono (by omega)))) ?_
      clear hK K
      (try simp only [Act.put, List.setIfInBounds_toArray, List.set_cons_zero, List.set_cons_succ])
      have bs9 : Y8.heap.size ≤ Y9.heap.size := hb9.size
      have BY9 := Lib.hid (BY8.out.trans (hb9.mono (by omega)))
      have kh9 := Lib.hid (blkB kh8.out hb9 (by omega))
      clear hb9
      refine wpTree_one ?_
      refine stepT_mk rfl (fun K hK => ?_)
      go_simp
      refine (HI.out _ _ _ _ _ (((ounw0_5.out.below iunw0 (by omega) BY9.out).rd iunw0).mono (by omega)) (((ounw1_5.out.below iunw1 (by omega) BY9.out).rd iunw1).mono (by omega)) (((ounw2_5.out.below iunw2 (by omega) BY9.out).rd iunw2).mono (by omega)) (((ounw3_5.out.below iunw3 (by omega) BY9.out).rd iunw3).mono (by omega)) (by omega) (by omega)).mono ?_
      rintro e Y10 ⟨ag00, cg00, ag01, cg01, ag02, cg02, ag03, cg03, fg0, rfl, hb10, ov10, iv10⟩
      refine hK.out _ _ (HKB.out _ (BY9.out.trans (hb10.mono (by omega)))) ?_
      clear hK K
      (try simp only [Act.put, List.setIfInBounds_toArray, List.set_cons_zero, List.set_cons_succ])
      have OR10 := Lib.hid ov10
      have ir := iv10
      clear ov10 iv10
      have bs10 : Y9.heap.size ≤ Y10.heap.size := hb10.size
      have BY10 := Lib.hid (BY9.out.trans (hb10.mono (by omega)))
      have kh10 := Lib.hid (blkB kh9.out hb10 (by omega))
      clear hb10
      refine wpTree_read (v := ?_) rfl (fun _ _ _ h => h) ?_ ?_
      rotate_left
      · (intro W hSW; (try dsimp only at hSW); (go_simp <;> with_reducible rfl))
      (try simp only [Act.put, List.setIfInBounds_toArray, List.set_cons_zero, List.set_cons_succ])
      refine wpTree_read (v := ?_) rfl (fun _ _ _ h => h) ?_ ?_
      rotate_left
      · (intro W hSW; (try dsimp only at hSW); (go_simp <;> with_reducible rfl))
      (try simp only [Act.put, List.setIfInBounds_toArray, List.set_cons_zero, List.set_cons_succ])
      refine wpTree_read (v := ?_) rfl (fun _ _ _ h => h) ?_ ?_
      rotate_left
      · (intro W hSW; (try dsimp only at hSW); (go_simp <;> with_reducible rfl))
      (try simp only [Act.put, List.setIfInBounds_toArray, List.set_cons_zero, List.set_cons_succ])
      refine wpTree_one ?_
      refine stepT_mk rfl (fun K hK => ?_)
      have g0_ := blkC (v := .slice none 0 0) kh10.out 0 rfl
      have g1_ := blkC (v := .slice none 0 0) kh10.out 1 rfl
      have g2_ := blkC (v := .slice none 0 0) kh10.out 2 rfl
      have g3_ := blkC (v := .slice none 0 0) kh10.out 3 rfl
      have fz := blkF kh10.out
      have kf_ : ((((Y10.setCell ⟨Y.heap.size, 0, none⟩ (.slice ag00 R.1.sites.length cg00)).setCell ⟨Y.heap.size, 1, none⟩ (.slice ag01 R.1.sectors.length cg01)).setCell ⟨Y.heap.size, 2, none⟩ (.slice ag02 R.1.antennas.length cg02)).setCell ⟨Y.heap.size, 3, none⟩ (.slice ag03 R.1.radios.length cg03)).heap[Y.heap.size]? = some (.cells #[.slice ag00 R.1.sites.length cg00, .slice ag01 R.1.sectors.length cg01, .slice ag02 R.1.antennas.length cg02, .slice ag03 R.1.radios.length cg03] 35 (0, 0)) := by
        have h_ := blkS (blkS (blkS (blkS (kh10.out) 0 (.slice ag00 R.1.sites.length cg00)) 1 (.slice ag01 R.1.sectors.length cg01)) 2 (.slice ag02 R.1.antennas.length cg02)) 3 (.slice ag03 R.1.radios.length cg03)
        simpa using h_
      have KF := Lib.hid kf_
      clear kf_
      have BF := Lib.hid (((((BY10.out).setCell (p := ⟨Y.heap.size, 0, none⟩) (by show w5.heap.size ≤ Y.heap.size; omega) (.slice ag00 R.1.sites.length cg00)).setCell (p := ⟨Y.heap.size, 1, none⟩) (by show w5.heap.size ≤ Y.heap.size; omega) (.slice ag01 R.1.sectors.length cg01)).setCell (p := ⟨Y.heap.size, 2, none⟩) (by show w5.heap.size ≤ Y.heap.size; omega) (.slice ag02 R.1.antennas.length cg02)).setCell (p := ⟨Y.heap.size, 3, none⟩) (by show w5.heap.size ≤ Y.heap.size; omega) (.slice ag03 R.1.radios.length cg03))
      have OF := Lib.hid (((((OR10.out).setFar (p := ⟨Y.heap.size, 0, none⟩) (fun e => by have := ir _ e; simp only at this; omega) (.slice ag00 R.1.sites.length cg00)).setFar (p := ⟨Y.heap.size, 1, none⟩) (fun e => by have := ir _ e; simp only at this; omega) (.slice ag01 R.1.sectors.length cg01)).setFar (p := ⟨Y.heap.size, 2, none⟩) (fun e => by have := ir _ e; simp only at this; omega) (.slice ag02 R.1.antennas.length cg02)).setFar (p := ⟨Y.heap.size, 3, none⟩) (fun e => by have := ir _ e; simp only at this; omega) (.slice ag03 R.1.radios.length cg03))
      have zs11 : Y10.heap.size ≤ ((((Y10.setCell ⟨Y.heap.size, 0, none⟩ (.slice ag00 R.1.sites.length cg00)).setCell ⟨Y.heap.size, 1, none⟩ (.slice ag01 R.1.sectors.length cg01)).setCell ⟨Y.heap.size, 2, none⟩ (.slice ag02 R.1.antennas.length cg02)).setCell ⟨Y.heap.size, 3, none⟩ (.slice ag03 R.1.radios.length cg03)).heap.size := by simp only [size_setCell]; omega
      go_simp
      refine hK.out _ _ (HKB.out _ BF.out) ?_
      clear hK K fz g0_ g1_ g2_ g3_
      (try simp only [Act.put, List.setIfInBounds_toArray, List.set_cons_zero, List.set_cons_succ])
      generalize ((((Y10.setCell ⟨Y.heap.size, 0, none⟩ (.slice ag00 R.1.sites.length cg00)).setCell ⟨Y.heap.size, 1, none⟩ (.slice ag01 R.1.sectors.length cg01)).setCell ⟨Y.heap.size, 2, none⟩ (.slice ag02 R.1.antennas.length cg02)).setCell ⟨Y.heap.size, 3, none⟩ (.slice ag03 R.1.radios.length cg03)) = Y11 at *
      refine wpTree_nil ?_
      simp only [List.drop_succ_cons, List.drop_zero]
      go_wp2_with fail
      go_meet
      exact ⟨_, ag00, cg00, ag01, cg01, ag02, cg02, ag03, cg03, fg0, _, _, rfl, rfl, KF.out, by omega, by omega, BF.out, OF.out, ir, by omega, by omega, by omega⟩
  obtain ⟨hg, ag00, cg00, ag01, cg01, ag02, cg02, ag03, cg03, fg0, log, hig, e0_, e1_, khg, hlog, hhig, hb6, ov6, iv6, hlo2g, hhi2g, hnfg⟩ := hcut
  subst e0_ e1_
  generalize wc = w6 at *
  have fcg0 := blkC (v := .slice ag00 R.1.sites.length cg00) khg 0 rfl
  have fcg1 := blkC (v := .slice ag01 R.1.sectors.length cg01) khg 1 rfl
  have fcg2 := blkC (v := .slice ag02 R.1.antennas.length cg02) khg 2 rfl
  have fcg3 := blkC (v := .slice ag03 R.1.radios.length cg03) khg 3 rfl
  clear khg HKB BBd
  have hbb6 : Below w5.heap.size w5 w6 := hb6
  have z6 := hbb6.size
  obtain ⟨qAnw6, _, yAnw6⟩ := bcellAt hb6 (b := w.heap.size) (by first | omega | (simp; done) | (simp; omega))
  obtain ⟨qAx6, _, yAx6⟩ := bcellAt hb6 (b := w.heap.size + 1) (by first | omega | (simp; done) | (simp; omega))
  obtain ⟨qS06, _, yS06⟩ := bcellAt hb6 (b := hs) (by first | omega | (simp; done) | (simp; omega))
  obtain ⟨qUnw6, _, yUnw6⟩ := bcellAt hb6 (b := w4.heap.size) (by first | omega | (simp; done) | (simp; omega))
  have BB6 := Lib.hid (BB5.out.trans (hbb6.mono (by omega)))
  have os00_6 := Lib.hid (os00_5.out.below is00 (by omega) hbb6)
  have os01_6 := Lib.hid (os01_5.out.below is01 (by omega) hbb6)
  have os02_6 := Lib.hid (os02_5.out.below is02 (by omega) hbb6)
  have os03_6 := Lib.hid (os03_5.out.below is03 (by omega) hbb6)
  have ounw0_6 := Lib.hid (ounw0_5.out.below iunw0 (by omega) hbb6)
  have ounw1_6 := Lib.hid (ounw1_5.out.below iunw1 (by omega) hbb6)
  have ounw2_6 := Lib.hid (ounw2_5.out.below iunw2 (by omega) hbb6)
  have ounw3_6 := Lib.hid (ounw3_5.out.below iunw3 (by omega) hbb6)
  clear hbb6
  obtain ⟨g6_0, r6_0, e6_0, p6_0, ov6_0, d6_0⟩ := OwnV.uncons ov6
  obtain ⟨g6_1, r6_1, e6_1, p6_1, ov6_1, d6_1⟩ := OwnV.uncons ov6_0
  obtain ⟨g6_2, r6_2, e6_2, p6_2, ov6_2, d6_2⟩ := OwnV.uncons ov6_1
  obtain ⟨g6_3, r6_3, e6_3, p6_3, ov6_3, d6_3⟩ := OwnV.uncons ov6_2
  have iw6 := iv6
  have hnil6 := ov6_3.rep
  change r6_3 = [] at hnil6
  subst hnil6
  subst e6_3
  subst e6_2
  subst e6_1
  subst e6_0
  have ig00 : In _ _ g6_0 := fun y hy => iw6 y (by simp [hy])
  have og00_6 := Lib.hid p6_0
  have ig01 : In _ _ g6_1 := fun y hy => iw6 y (by simp [hy])
  have og01_6 := Lib.hid p6_1
  have ig02 : In _ _ g6_2 := fun y hy => iw6 y (by simp [hy])
  have og02_6 := Lib.hid p6_2
  have ig03 : In _ _ g6_3 := fun y hy => iw6 y (by simp [hy])
  have og03_6 := Lib.hid p6_3
  have djg00_1 : ∀ y ∈ g6_0, y ∉ g6_1 := fun y hy e => d6_0 y hy (by simp [e])
  have djg00_2 : ∀ y ∈ g6_0, y ∉ g6_2 := fun y hy e => d6_0 y hy (by simp [e])
  have djg00_3 : ∀ y ∈ g6_0, y ∉ g6_3 := fun y hy e => d6_0 y hy (by simp [e])
  have djg01_2 : ∀ y ∈ g6_1, y ∉ g6_2 := fun y hy e => d6_1 y hy (by simp [e])
  have djg01_3 : ∀ y ∈ g6_1, y ∉ g6_3 := fun y hy e => d6_1 y hy (by simp [e])
  have djg02_3 : ∀ y ∈ g6_2, y ∉ g6_3 := fun y hy e => d6_2 y hy (by simp [e])
  clear p6_0 ov6_0 d6_0 p6_1 ov6_1 d6_1 p6_2 ov6_2 d6_2 p6_3 ov6_3 d6_3 ov6 iv6 iw6
  go_wp2_with fail
  refine ((eq_Network R.1 _ _ _ _ _ _ _ _ w6.heap.size _ ((og00_6.out.rd ig00).mono (by omega)) ((os00_6.out.rd is00).mono (by omega)) ((og01_6.out.rd ig01).mono (by omega)) ((os01_6.out.rd is01).mono (by omega)) ((og02_6.out.rd ig02).mono (by omega)) ((os02_6.out.rd is02).mono (by omega)) ((og03_6.out.rd ig03).mono (by omega)) ((os03_6.out.rd is03).mono (by omega)) (Nat.le_refl _) (by omega))).mono ?_
  rintro e w7 ⟨rfl, hb7⟩
  have hbb7 : Below w6.heap.size w6 w7 := hb7
  have z7 := hbb7.size
  obtain ⟨qAnw7, _, yAnw7⟩ := bcellAt hb7 (b := w.heap.size) (by first | omega | (simp; done) | (simp; omega))
  obtain ⟨qAx7, _, yAx7⟩ := bcellAt hb7 (b := w.heap.size + 1) (by first | omega | (simp; done) | (simp; omega))
  obtain ⟨qS07, _, yS07⟩ := bcellAt hb7 (b := hs) (by first | omega | (simp; done) | (simp; omega))
  obtain ⟨qUnw7, _, yUnw7⟩ := bcellAt hb7 (b := w4.heap.size) (by first | omega | (simp; done) | (simp; omega))
  obtain ⟨qG07, _, yG07⟩ := bcellAt hb7 (b := hg) (by first | omega | (simp; done) | (simp; omega))
  have BB7 := Lib.hid (BB6.out.trans (hbb7.mono (by omega)))
  have os00_7 := Lib.hid (os00_6.out.below is00 (by omega) hbb7)
  have os01_7 := Lib.hid (os01_6.out.below is01 (by omega) hbb7)
  have os02_7 := Lib.hid (os02_6.out.below is02 (by omega) hbb7)
  have os03_7 := Lib.hid (os03_6.out.below is03 (by omega) hbb7)
  have ounw0_7 := Lib.hid (ounw0_6.out.below iunw0 (by omega) hbb7)
  have ounw1_7 := Lib.hid (ounw1_6.out.below iunw1 (by omega) hbb7)
  have ounw2_7 := Lib.hid (ounw2_6.out.below iunw2 (by omega) hbb7)
  have ounw3_7 := Lib.hid (ounw3_6.out.below iunw3 (by omega) hbb7)
  have og00_7 := Lib.hid (og00_6.out.below ig00 (by omega) hbb7)
  have og01_7 := Lib.hid (og01_6.out.below ig01 (by omega) hbb7)
  have og02_7 := Lib.hid (og02_6.out.below ig02 (by omega) hbb7)
  have og03_7 := Lib.hid (og03_6.out.below ig03 (by omega) hbb7)
  clear hbb7
  clear cy1 cy2
  have hcf : w7.cell? ⟨w4.heap.size, 0, none⟩ = some (.slice aunw0 nw.sites.length cunw0) ∧ w7.cell? ⟨w4.heap.size, 1, none⟩ = some (.slice aunw1 nw.sectors.length cunw1) ∧ w7.cell? ⟨w4.heap.size, 2, none⟩ = some (.slice aunw2 nw.antennas.length cunw2) ∧ w7.cell? ⟨w4.heap.size, 3, none⟩ = some (.slice aunw3 nw.radios.length cunw3) ∧ w7.cell? ⟨w.heap.size, 0, none⟩ = some (vnw0) ∧ w7.cell? ⟨w.heap.size, 1, none⟩ = some (vnw1) ∧ w7.cell? ⟨w.heap.size, 2, none⟩ = some (vnw2) ∧ w7.cell? ⟨w.heap.size, 3, none⟩ = some (vnw3) := by refine ⟨?_, ?_, ?_, ?_, ?_, ?_, ?_, ?_⟩ <;> simp [go_sem, *]
  go_wp2
  have hsame : Below w7.heap.size w7 w7.drew := ⟨rfl, rfl, rfl, Nat.le_refl _, fun _ _ => rfl⟩
  have BBd := Lib.hid BB7.out.drew
  have HTO := Lib.hid (to_Network nw vnw0 vnw1 vnw2 vnw3 w7.drew ((Hnw0.out.below BBd.out).mono (by show w.heap.size ≤ w7.heap.size; omega)) ((Hnw1.out.below BBd.out).mono (by show w.heap.size ≤ w7.heap.size; omega)) ((Hnw2.out.below BBd.out).mono (by show w.heap.size ≤ w7.heap.size; omega)) ((Hnw3.out.below BBd.out).mono (by show w.heap.size ≤ w7.heap.size; omega)) (by omega))
  have HEQ : Hid (∀ (W : World) (p0 p1 p2 p3 q0 q1 q2 q3 : Value), Below w7.heap.size w7 W → RdV W.heap.size W nw.tr [q0, q1, q2, q3] → p0 = .slice aunw0 nw.sites.length cunw0 → p1 = .slice aunw1 nw.sectors.length cunw1 → p2 = .slice aunw2 nw.antennas.length cunw2 → p3 = .slice aunw3 nw.radios.length cunw3 → Calls Tryz.prog 14 #[.agg #[p0, p1, p2, p3], .agg #[q0, q1, q2, q3]] W fun e w' => e = .returned (.bool true) ∧ Below W.heap.size W w') := fun W p0 p1 p2 p3 q0 q1 q2 q3 hW hr e0 e1 e2 e3 => by
    subst e0 e1 e2 e3
    have hzW := hW.size
    exact eq_Network nw _ _ _ _ _ _ _ _ W.heap.size W (((ounw0_7.out.below iunw0 (by omega) hW).rd iunw0).mono (by omega)) hr.1 (((ounw1_7.out.below iunw1 (by omega) hW).rd iunw1).mono (by omega)) hr.2.1 (((ounw2_7.out.below iunw2 (by omega) hW).rd iunw2).mono (by omega)) hr.2.2.1 (((ounw3_7.out.below iunw3 (by omega) hW).rd iunw3).mono (by omega)) hr.2.2.2.1 (Nat.le_refl _) (by omega)
  go_region_held3 (fun W => W.cell? ⟨w4.heap.size, 0, none⟩ = some (.slice aunw0 nw.sites.length cunw0) ∧ W.cell? ⟨w4.heap.size, 1, none⟩ = some (.slice aunw1 nw.sectors.length cunw1) ∧ W.cell? ⟨w4.heap.size, 2, none⟩ = some (.slice aunw2 nw.antennas.length cunw2) ∧ W.cell? ⟨w4.heap.size, 3, none⟩ = some (.slice aunw3 nw.radios.length cunw3) ∧ W.cell? ⟨w.heap.size, 0, none⟩ = some (vnw0) ∧ W.cell? ⟨w.heap.size, 1, none⟩ = some (vnw1) ∧ W.cell? ⟨w.heap.size, 2, none⟩ = some (vnw2) ∧ W.cell? ⟨w.heap.size, 3, none⟩ = some (vnw3)) (first | exact hcf | (refine ⟨?_, ?_, ?_, ?_, ?_, ?_, ?_, ?_⟩ <;> simp [go_sem, *]))
    (first
      | (go_at_call 11; refine (HTO.out).mono ?_; rintro e wt ⟨at0, ct0, at1, ct1, at2, ct2, at3, ct3, ft, rfl, hbt, ovt, ivt⟩; obtain ⟨qUt, _, yUt⟩ := bcellAt hbt (b := w4.heap.size) (by show w4.heap.size < w7.heap.size; omega); obtain ⟨qAt, _, yAt⟩ := bcellAt hbt (b := w.heap.size) (by show w.heap.size < w7.heap.size; omega))
      | (go_at_call 14; refine (HEQ.out _ _ _ _ _ _ _ _ _ (hsame.trans hbt) (ovt.rd ivt) rfl rfl rfl rfl).mono ?_; rintro e w8 ⟨rfl, hbe⟩; obtain ⟨qUe, _, yUe⟩ := bcellAt hbe (b := w4.heap.size) yUt; obtain ⟨qAe, _, yAe⟩ := bcellAt hbe (b := w.heap.size) yAt))
  have hb8 : Below w7.heap.size w7 w8 := (hsame.trans hbt).trans (hbe.mono (hsame.trans hbt).size)
  clear HEQ HTO BBd hcf qUt qAt qUe qAe yUt yAt yUe yAe hbe hbt ovt ivt hsame
  have hbb8 : Below w7.heap.size w7 w8 := hb8
  have z8 := hbb8.size
  obtain ⟨qAnw8, _, yAnw8⟩ := bcellAt hb8 (b := w.heap.size) (by first | omega | (simp; done) | (simp; omega))
  obtain ⟨qAx8, _, yAx8⟩ := bcellAt hb8 (b := w.heap.size + 1) (by first | omega | (simp; done) | (simp; omega))
  obtain ⟨qS08, _, yS08⟩ := bcellAt hb8 (b := hs) (by first | omega | (simp; done) | (simp; omega))
  obtain ⟨qUnw8, _, yUnw8⟩ := bcellAt hb8 (b := w4.heap.size) (by first | omega | (simp; done) | (simp; omega))
  obtain ⟨qG08, _, yG08⟩ := bcellAt hb8 (b := hg) (by first | omega | (simp; done) | (simp; omega))
  have BB8 := Lib.hid (BB7.out.trans (hbb8.mono (by omega)))
  have os00_8 := Lib.hid (os00_7.out.below is00 (by omega) hbb8)
  have os01_8 := Lib.hid (os01_7.out.below is01 (by omega) hbb8)
  have os02_8 := Lib.hid (os02_7.out.below is02 (by omega) hbb8)
  have os03_8 := Lib.hid (os03_7.out.below is03 (by omega) hbb8)
  have ounw0_8 := Lib.hid (ounw0_7.out.below iunw0 (by omega) hbb8)
  have ounw1_8 := Lib.hid (ounw1_7.out.below iunw1 (by omega) hbb8)
  have ounw2_8 := Lib.hid (ounw2_7.out.below iunw2 (by omega) hbb8)
  have ounw3_8 := Lib.hid (ounw3_7.out.below iunw3 (by omega) hbb8)
  have og00_8 := Lib.hid (og00_7.out.below ig00 (by omega) hbb8)
  have og01_8 := Lib.hid (og01_7.out.below ig01 (by omega) hbb8)
  have og02_8 := Lib.hid (og02_7.out.below ig02 (by omega) hbb8)
  have og03_8 := Lib.hid (og03_7.out.below ig03 (by omega) hbb8)
  clear hbb8
  go_wp2_with fail
  refine (mark_Network nw _ _ _ _ g4_0 g4_1 g4_2 g4_3 (1) _ _ _ _ _ _ _ _ _ ounw0_8.out iunw0 (by first | omega | (simp; done) | (simp; omega)) ounw1_8.out iunw1 (by first | omega | (simp; done) | (simp; omega)) ounw2_8.out iunw2 (by first | omega | (simp; done) | (simp; omega)) ounw3_8.out iunw3 (by first | omega | (simp; done) | (simp; omega)) djunw0_1 djunw0_2 djunw0_3 djunw1_2 djunw1_3 djunw2_3 (by omega) (by omega) (by omega)).mono ?_
  rintro e w9 ⟨rfl, munw0, munw1, munw2, munw3, hc9⟩
  have hcc9 : Chg (g4_0 ++ g4_1 ++ g4_2 ++ g4_3) w8 w9 := hc9
  have z9 := hcc9.size
  have hkAnw9 := hc9.block (w.heap.size) (by first | omega | (simp; done) | (simp; omega)) (fun e => by simp only [List.mem_append] at e; rcases e with (((e | e) | e) | e) <;> first | (have h2 := iunw0 _ e; omega) | (have h2 := iunw1 _ e; omega) | (have h2 := iunw2 _ e; omega) | (have h2 := iunw3 _ e; omega))
  have qAnw9 : ∀ o, w9.cell? ⟨w.heap.size, o, none⟩ = _ := fun o => World.cell?_of_block (a := ⟨w.heap.size, o, none⟩) hkAnw9
  have yAnw9 : w.heap.size < w9.heap.size := by first | omega | (have := hc9.size; simp at this; omega)
  clear hkAnw9
  have hkAx9 := hc9.block (w.heap.size + 1) (by first | omega | (simp; done) | (simp; omega)) (fun e => by simp only [List.mem_append] at e; rcases e with (((e | e) | e) | e) <;> first | (have h2 := iunw0 _ e; omega) | (have h2 := iunw1 _ e; omega) | (have h2 := iunw2 _ e; omega) | (have h2 := iunw3 _ e; omega))
  have qAx9 : ∀ o, w9.cell? ⟨w.heap.size + 1, o, none⟩ = _ := fun o => World.cell?_of_block (a := ⟨w.heap.size + 1, o, none⟩) hkAx9
  have yAx9 : w.heap.size + 1 < w9.heap.size := by first | omega | (have := hc9.size; simp at this; omega)
  clear hkAx9
  have hkS09 := hc9.block (hs) (by first | omega | (simp; done) | (simp; omega)) (fun e => by simp only [List.mem_append] at e; rcases e with (((e | e) | e) | e) <;> first | (have h2 := iunw0 _ e; omega) | (have h2 := iunw1 _ e; omega) | (have h2 := iunw2 _ e; omega) | (have h2 := iunw3 _ e; omega))
  have qS09 : ∀ o, w9.cell? ⟨hs, o, none⟩ = _ := fun o => World.cell?_of_block (a := ⟨hs, o, none⟩) hkS09
  have yS09 : hs < w9.heap.size := by first | omega | (have := hc9.size; simp at this; omega)
  clear hkS09
  have hkUnw9 := hc9.block (w4.heap.size) (by first | omega | (simp; done) | (simp; omega)) (fun e => by simp only [List.mem_append] at e; rcases e with (((e | e) | e) | e) <;> first | (have h2 := iunw0 _ e; omega) | (have h2 := iunw1 _ e; omega) | (have h2 := iunw2 _ e; omega) | (have h2 := iunw3 _ e; omega))
  have qUnw9 : ∀ o, w9.cell? ⟨w4.heap.size, o, none⟩ = _ := fun o => World.cell?_of_block (a := ⟨w4.heap.size, o, none⟩) hkUnw9
  have yUnw9 : w4.heap.size < w9.heap.size := by first | omega | (have := hc9.size; simp at this; omega)
  clear hkUnw9
  have hkG09 := hc9.block (hg) (by first | omega | (simp; done) | (simp; omega)) (fun e => by simp only [List.mem_append] at e; rcases e with (((e | e) | e) | e) <;> first | (have h2 := iunw0 _ e; omega) | (have h2 := iunw1 _ e; omega) | (have h2 := iunw2 _ e; omega) | (have h2 := iunw3 _ e; omega))
  have qG09 : ∀ o, w9.cell? ⟨hg, o, none⟩ = _ := fun o => World.cell?_of_block (a := ⟨hg, o, none⟩) hkG09
  have yG09 : hg < w9.heap.size := by first | omega | (have := hc9.size; simp at this; omega)
  clear hkG09
  have BB9 := Lib.hid (BB8.out.trans (hcc9.below (by omega) (fun x hx => by simp only [List.mem_append] at hx; rcases hx with (((hx | hx) | hx) | hx) <;> first | (have h2 := iunw0 x hx; omega) | (have h2 := iunw1 x hx; omega) | (have h2 := iunw2 x hx; omega) | (have h2 := iunw3 x hx; omega))))
  have os00_9 := Lib.hid (os00_8.out.chg is00 (by omega) hcc9 (fun x hx e => by have hx0 := is00 x hx; simp only [List.mem_append] at e; rcases e with (((e | e) | e) | e) <;> first | (have h2 := iunw0 x e; omega) | (have h2 := iunw1 x e; omega) | (have h2 := iunw2 x e; omega) | (have h2 := iunw3 x e; omega)))
  have os01_9 := Lib.hid (os01_8.out.chg is01 (by omega) hcc9 (fun x hx e => by have hx0 := is01 x hx; simp only [List.mem_append] at e; rcases e with (((e | e) | e) | e) <;> first | (have h2 := iunw0 x e; omega) | (have h2 := iunw1 x e; omega) | (have h2 := iunw2 x e; omega) | (have h2 := iunw3 x e; omega)))
  have os02_9 := Lib.hid (os02_8.out.chg is02 (by omega) hcc9 (fun x hx e => by have hx0 := is02 x hx; simp only [List.mem_append] at e; rcases e with (((e | e) | e) | e) <;> first | (have h2 := iunw0 x e; omega) | (have h2 := iunw1 x e; omega) | (have h2 := iunw2 x e; omega) | (have h2 := iunw3 x e; omega)))
  have os03_9 := Lib.hid (os03_8.out.chg is03 (by omega) hcc9 (fun x hx e => by have hx0 := is03 x hx; simp only [List.mem_append] at e; rcases e with (((e | e) | e) | e) <;> first | (have h2 := iunw0 x e; omega) | (have h2 := iunw1 x e; omega) | (have h2 := iunw2 x e; omega) | (have h2 := iunw3 x e; omega)))
  have og00_9 := Lib.hid (og00_8.out.chg ig00 (by omega) hcc9 (fun x hx e => by have hx0 := ig00 x hx; simp only [List.mem_append] at e; rcases e with (((e | e) | e) | e) <;> first | (have h2 := iunw0 x e; omega) | (have h2 := iunw1 x e; omega) | (have h2 := iunw2 x e; omega) | (have h2 := iunw3 x e; omega)))
  have og01_9 := Lib.hid (og01_8.out.chg ig01 (by omega) hcc9 (fun x hx e => by have hx0 := ig01 x hx; simp only [List.mem_append] at e; rcases e with (((e | e) | e) | e) <;> first | (have h2 := iunw0 x e; omega) | (have h2 := iunw1 x e; omega) | (have h2 := iunw2 x e; omega) | (have h2 := iunw3 x e; omega)))
  have og02_9 := Lib.hid (og02_8.out.chg ig02 (by omega) hcc9 (fun x hx e => by have hx0 := ig02 x hx; simp only [List.mem_append] at e; rcases e with (((e | e) | e) | e) <;> first | (have h2 := iunw0 x e; omega) | (have h2 := iunw1 x e; omega) | (have h2 := iunw2 x e; omega) | (have h2 := iunw3 x e; omega)))
  have og03_9 := Lib.hid (og03_8.out.chg ig03 (by omega) hcc9 (fun x hx e => by have hx0 := ig03 x hx; simp only [List.mem_append] at e; rcases e with (((e | e) | e) | e) <;> first | (have h2 := iunw0 x e; omega) | (have h2 := iunw1 x e; omega) | (have h2 := iunw2 x e; omega) | (have h2 := iunw3 x e; omega)))
  clear hcc9
  have kounw0_9 := Lib.hid munw0
  clear munw0
  have kounw1_9 := Lib.hid munw1
  clear munw1
  have kounw2_9 := Lib.hid munw2
  clear munw2
  have kounw3_9 := Lib.hid munw3
  clear munw3
  have kd9 : decide (((1 + cnt (DSite.sT nw.sites) + cnt (DSector.sT nw.sectors) + cnt (DAntenna.sT nw.antennas) + cnt (DRadio.sT nw.radios) : Nat) : Int) < 0) = false := by simp; omega
  go_wp2_with fail
  refine ((eq_Network R.1 _ _ _ _ _ _ _ _ w9.heap.size _ ((og00_9.out.rd ig00).mono (by omega)) ((os00_9.out.rd is00).mono (by omega)) ((og01_9.out.rd ig01).mono (by omega)) ((os01_9.out.rd is01).mono (by omega)) ((og02_9.out.rd ig02).mono (by omega)) ((os02_9.out.rd is02).mono (by omega)) ((og03_9.out.rd ig03).mono (by omega)) ((os03_9.out.rd is03).mono (by omega)) (Nat.le_refl _) (by omega))).mono ?_
  rintro e w10 ⟨rfl, hb10⟩
  have hbb10 : Below w9.heap.size w9 w10 := hb10
  have z10 := hbb10.size
  obtain ⟨qAnw10, _, yAnw10⟩ := bcellAt hb10 (b := w.heap.size) (by first | omega | (simp; done) | (simp; omega))
  obtain ⟨qAx10, _, yAx10⟩ := bcellAt hb10 (b := w.heap.size + 1) (by first | omega | (simp; done) | (simp; omega))
  obtain ⟨qS010, _, yS010⟩ := bcellAt hb10 (b := hs) (by first | omega | (simp; done) | (simp; omega))
  obtain ⟨qUnw10, _, yUnw10⟩ := bcellAt hb10 (b := w4.heap.size) (by first | omega | (simp; done) | (simp; omega))
  obtain ⟨qG010, _, yG010⟩ := bcellAt hb10 (b := hg) (by first | omega | (simp; done) | (simp; omega))
  have BB10 := Lib.hid (BB9.out.trans (hbb10.mono (by omega)))
  have os00_10 := Lib.hid (os00_9.out.below is00 (by omega) hbb10)
  have os01_10 := Lib.hid (os01_9.out.below is01 (by omega) hbb10)
  have os02_10 := Lib.hid (os02_9.out.below is02 (by omega) hbb10)
  have os03_10 := Lib.hid (os03_9.out.below is03 (by omega) hbb10)
  have og00_10 := Lib.hid (og00_9.out.below ig00 (by omega) hbb10)
  have og01_10 := Lib.hid (og01_9.out.below ig01 (by omega) hbb10)
  have og02_10 := Lib.hid (og02_9.out.below ig02 (by omega) hbb10)
  have og03_10 := Lib.hid (og03_9.out.below ig03 (by omega) hbb10)
  clear hbb10
  go_wp2_with fail
  refine (mark_Network R.1 _ _ _ _ g6_0 g6_1 g6_2 g6_3 (1) _ _ _ _ _ _ _ _ _ og00_10.out ig00 (by first | omega | (simp; done) | (simp; omega)) og01_10.out ig01 (by first | omega | (simp; done) | (simp; omega)) og02_10.out ig02 (by first | omega | (simp; done) | (simp; omega)) og03_10.out ig03 (by first | omega | (simp; done) | (simp; omega)) djg00_1 djg00_2 djg00_3 djg01_2 djg01_3 djg02_3 (by omega) (by omega) (by omega)).mono ?_
  rintro e w11 ⟨rfl, mg00, mg01, mg02, mg03, hc11⟩
  have hcc11 : Chg (g6_0 ++ g6_1 ++ g6_2 ++ g6_3) w10 w11 := hc11
  have z11 := hcc11.size
  have hkAnw11 := hc11.block (w.heap.size) (by first | omega | (simp; done) | (simp; omega)) (fun e => by simp only [List.mem_append] at e; rcases e with (((e | e) | e) | e) <;> first | (have h2 := ig00 _ e; omega) | (have h2 := ig01 _ e; omega) | (have h2 := ig02 _ e; omega) | (have h2 := ig03 _ e; omega))
  have qAnw11 : ∀ o, w11.cell? ⟨w.heap.size, o, none⟩ = _ := fun o => World.cell?_of_block (a := ⟨w.heap.size, o, none⟩) hkAnw11
  have yAnw11 : w.heap.size < w11.heap.size := by first | omega | (have := hc11.size; simp at this; omega)
  clear hkAnw11
  have hkAx11 := hc11.block (w.heap.size + 1) (by first | omega | (simp; done) | (simp; omega)) (fun e => by simp only [List.mem_append] at e; rcases e with (((e | e) | e) | e) <;> first | (have h2 := ig00 _ e; omega) | (have h2 := ig01 _ e; omega) | (have h2 := ig02 _ e; omega) | (have h2 := ig03 _ e; omega))
  have qAx11 : ∀ o, w11.cell? ⟨w.heap.size + 1, o, none⟩ = _ := fun o => World.cell?_of_block (a := ⟨w.heap.size + 1, o, none⟩) hkAx11
  have yAx11 : w.heap.size + 1 < w11.heap.size := by first | omega | (have := hc11.size; simp at this; omega)
  clear hkAx11
  have hkS011 := hc11.block (hs) (by first | omega | (simp; done) | (simp; omega)) (fun e => by simp only [List.mem_append] at e; rcases e with (((e | e) | e) | e) <;> first | (have h2 := ig00 _ e; omega) | (have h2 := ig01 _ e; omega) | (have h2 := ig02 _ e; omega) | (have h2 := ig03 _ e; omega))
  have qS011 : ∀ o, w11.cell? ⟨hs, o, none⟩ = _ := fun o => World.cell?_of_block (a := ⟨hs, o, none⟩) hkS011
  have yS011 : hs < w11.heap.size := by first | omega | (have := hc11.size; simp at this; omega)
  clear hkS011
  have hkUnw11 := hc11.block (w4.heap.size) (by first | omega | (simp; done) | (simp; omega)) (fun e => by simp only [List.mem_append] at e; rcases e with (((e | e) | e) | e) <;> first | (have h2 := ig00 _ e; omega) | (have h2 := ig01 _ e; omega) | (have h2 := ig02 _ e; omega) | (have h2 := ig03 _ e; omega))
  have qUnw11 : ∀ o, w11.cell? ⟨w4.heap.size, o, none⟩ = _ := fun o => World.cell?_of_block (a := ⟨w4.heap.size, o, none⟩) hkUnw11
  have yUnw11 : w4.heap.size < w11.heap.size := by first | omega | (have := hc11.size; simp at this; omega)
  clear hkUnw11
  have hkG011 := hc11.block (hg) (by first | omega | (simp; done) | (simp; omega)) (fun e => by simp only [List.mem_append] at e; rcases e with (((e | e) | e) | e) <;> first | (have h2 := ig00 _ e; omega) | (have h2 := ig01 _ e; omega) | (have h2 := ig02 _ e; omega) | (have h2 := ig03 _ e; omega))
  have qG011 : ∀ o, w11.cell? ⟨hg, o, none⟩ = _ := fun o => World.cell?_of_block (a := ⟨hg, o, none⟩) hkG011
  have yG011 : hg < w11.heap.size := by first | omega | (have := hc11.size; simp at this; omega)
  clear hkG011
  have BB11 := Lib.hid (BB10.out.trans (hcc11.below (by omega) (fun x hx => by simp only [List.mem_append] at hx; rcases hx with (((hx | hx) | hx) | hx) <;> first | (have h2 := ig00 x hx; omega) | (have h2 := ig01 x hx; omega) | (have h2 := ig02 x hx; omega) | (have h2 := ig03 x hx; omega))))
  have os00_11 := Lib.hid (os00_10.out.chg is00 (by omega) hcc11 (fun x hx e => by have hx0 := is00 x hx; simp only [List.mem_append] at e; rcases e with (((e | e) | e) | e) <;> first | (have h2 := ig00 x e; omega) | (have h2 := ig01 x e; omega) | (have h2 := ig02 x e; omega) | (have h2 := ig03 x e; omega)))
  have os01_11 := Lib.hid (os01_10.out.chg is01 (by omega) hcc11 (fun x hx e => by have hx0 := is01 x hx; simp only [List.mem_append] at e; rcases e with (((e | e) | e) | e) <;> first | (have h2 := ig00 x e; omega) | (have h2 := ig01 x e; omega) | (have h2 := ig02 x e; omega) | (have h2 := ig03 x e; omega)))
  have os02_11 := Lib.hid (os02_10.out.chg is02 (by omega) hcc11 (fun x hx e => by have hx0 := is02 x hx; simp only [List.mem_append] at e; rcases e with (((e | e) | e) | e) <;> first | (have h2 := ig00 x e; omega) | (have h2 := ig01 x e; omega) | (have h2 := ig02 x e; omega) | (have h2 := ig03 x e; omega)))
  have os03_11 := Lib.hid (os03_10.out.chg is03 (by omega) hcc11 (fun x hx e => by have hx0 := is03 x hx; simp only [List.mem_append] at e; rcases e with (((e | e) | e) | e) <;> first | (have h2 := ig00 x e; omega) | (have h2 := ig01 x e; omega) | (have h2 := ig02 x e; omega) | (have h2 := ig03 x e; omega)))
  clear hcc11
  have kog00_11 := Lib.hid mg00
  clear mg00
  have kog01_11 := Lib.hid mg01
  clear mg01
  have kog02_11 := Lib.hid mg02
  clear mg02
  have kog03_11 := Lib.hid mg03
  clear mg03
  go_wp2_with fail
  refine (held_Network R.1 _ _ _ _ w11.heap.size (1) _ ((kog00_11.out.rd ig00).mono (by omega)) ((kog01_11.out.rd ig01).mono (by omega)) ((kog02_11.out.rd ig02).mono (by omega)) ((kog03_11.out.rd ig03).mono (by omega)) (Nat.le_refl _) (by omega) (by omega) (by omega)).mono ?_
  rintro e w12 ⟨rfl, hb12⟩
  have hbb12 : Below w11.heap.size w11 w12 := hb12
  have z12 := hbb12.size
  obtain ⟨qAnw12, _, yAnw12⟩ := bcellAt hb12 (b := w.heap.size) (by first | omega | (simp; done) | (simp; omega))
  obtain ⟨qAx12, _, yAx12⟩ := bcellAt hb12 (b := w.heap.size + 1) (by first | omega | (simp; done) | (simp; omega))
  obtain ⟨qS012, _, yS012⟩ := bcellAt hb12 (b := hs) (by first | omega | (simp; done) | (simp; omega))
  obtain ⟨qUnw12, _, yUnw12⟩ := bcellAt hb12 (b := w4.heap.size) (by first | omega | (simp; done) | (simp; omega))
  obtain ⟨qG012, _, yG012⟩ := bcellAt hb12 (b := hg) (by first | omega | (simp; done) | (simp; omega))
  have BB12 := Lib.hid (BB11.out.trans (hbb12.mono (by omega)))
  have os00_12 := Lib.hid (os00_11.out.below is00 (by omega) hbb12)
  have os01_12 := Lib.hid (os01_11.out.below is01 (by omega) hbb12)
  have os02_12 := Lib.hid (os02_11.out.below is02 (by omega) hbb12)
  have os03_12 := Lib.hid (os03_11.out.below is03 (by omega) hbb12)
  have kog00_12 := Lib.hid (kog00_11.out.below ig00 (by omega) hbb12)
  have kog01_12 := Lib.hid (kog01_11.out.below ig01 (by omega) hbb12)
  have kog02_12 := Lib.hid (kog02_11.out.below ig02 (by omega) hbb12)
  have kog03_12 := Lib.hid (kog03_11.out.below ig03 (by omega) hbb12)
  clear hbb12
  go_wp2
  have hcf : w12.cell? ⟨w.heap.size, 0, none⟩ = some (vnw0) ∧ w12.cell? ⟨w.heap.size, 1, none⟩ = some (vnw1) ∧ w12.cell? ⟨w.heap.size, 2, none⟩ = some (vnw2) ∧ w12.cell? ⟨w.heap.size, 3, none⟩ = some (vnw3) ∧ w12.cell? ⟨w.heap.size + 1, 0, none⟩ = some (.string x.name) ∧ w12.cell? ⟨w.heap.size + 1, 1, none⟩ = some (.string x.site) ∧ w12.cell? ⟨w.heap.size + 1, 2, none⟩ = some (.string x.antenna) ∧ w12.cell? ⟨w.heap.size + 1, 3, none⟩ = some (.string x.radio) ∧ w12.cell? ⟨w.heap.size + 1, 4, none⟩ = some (.string x.band) ∧ w12.cell? ⟨w.heap.size + 1, 5, none⟩ = some (.int .i64 x.azimuth) ∧ w12.cell? ⟨w.heap.size + 1, 6, none⟩ = some (.int .i64 x.tilt) ∧ w12.cell? ⟨w.heap.size + 1, 7, none⟩ = some (.int .i64 x.above) ∧ w12.cell? ⟨w.heap.size + 1, 8, none⟩ = some (.int .i64 x.channel) := by refine ⟨?_, ?_, ?_, ?_, ?_, ?_, ?_, ?_, ?_, ?_, ?_, ?_, ?_⟩ <;> simp [go_sem, *]
  have HKB : Hid (∀ W : World, Below w12.heap.size w12 W → W.cell? ⟨w.heap.size, 0, none⟩ = some (vnw0) ∧ W.cell? ⟨w.heap.size, 1, none⟩ = some (vnw1) ∧ W.cell? ⟨w.heap.size, 2, none⟩ = some (vnw2) ∧ W.cell? ⟨w.heap.size, 3, none⟩ = some (vnw3) ∧ W.cell? ⟨w.heap.size + 1, 0, none⟩ = some (.string x.name) ∧ W.cell? ⟨w.heap.size + 1, 1, none⟩ = some (.string x.site) ∧ W.cell? ⟨w.heap.size + 1, 2, none⟩ = some (.string x.antenna) ∧ W.cell? ⟨w.heap.size + 1, 3, none⟩ = some (.string x.radio) ∧ W.cell? ⟨w.heap.size + 1, 4, none⟩ = some (.string x.band) ∧ W.cell? ⟨w.heap.size + 1, 5, none⟩ = some (.int .i64 x.azimuth) ∧ W.cell? ⟨w.heap.size + 1, 6, none⟩ = some (.int .i64 x.tilt) ∧ W.cell? ⟨w.heap.size + 1, 7, none⟩ = some (.int .i64 x.above) ∧ W.cell? ⟨w.heap.size + 1, 8, none⟩ = some (.int .i64 x.channel)) := fun W hW => by
    obtain ⟨e0, e1, e2, e3, e4, e5, e6, e7, e8, e9, e10, e11, e12⟩ := hcf
    exact ⟨(bat hW _ _ (by omega)).trans e0, (bat hW _ _ (by omega)).trans e1, (bat hW _ _ (by omega)).trans e2, (bat hW _ _ (by omega)).trans e3, (bat hW _ _ (by omega)).trans e4, (bat hW _ _ (by omega)).trans e5, (bat hW _ _ (by omega)).trans e6, (bat hW _ _ (by omega)).trans e7, (bat hW _ _ (by omega)).trans e8, (bat hW _ _ (by omega)).trans e9, (bat hW _ _ (by omega)).trans e10, (bat hW _ _ (by omega)).trans e11, (bat hW _ _ (by omega)).trans e12⟩
  clear hcf
  have BBd : Hid (Below w12.heap.size w12 w12.drew) := (Below.refl _ _).drew
  go_cut [14, 15] (fun s0 s1 wx => ∃ (hh : Nat) (ah00 : Option Addr) (ch00 : Nat) (ah01 : Option Addr) (ch01 : Nat) (ah02 : Option Addr) (ch02 : Nat) (ah03 : Option Addr) (ch03 : Nat) (fh0 : List Nat) (loh hih : Nat), s0 = .pointer (some ⟨hh, 0, none⟩) ∧ s1 = .int .i64 R.2 ∧ wx.heap[hh]? = some (.cells #[.slice ah00 R.1.sites.length ch00, .slice ah01 R.1.sectors.length ch01, .slice ah02 R.1.antennas.length ch02, .slice ah03 R.1.radios.length ch03] 35 (0, 0)) ∧ w12.heap.size ≤ hh ∧ hh < wx.heap.size ∧ Below w12.heap.size w12 wx ∧ OwnV wx R.1.tr [.slice ah00 R.1.sites.length ch00, .slice ah01 R.1.sectors.length ch01, .slice ah02 R.1.antennas.length ch02, .slice ah03 R.1.radios.length ch03] fh0 ∧ In loh hih fh0 ∧ w12.heap.size ≤ loh ∧ hih ≤ wx.heap.size ∧ (hh < loh ∨ hih ≤ hh))
  case first =>
    refine wp_region_tree 10 (.read 0 (.read 2 (.two 1 8 (.two 3 8 (.two 4 8 (.read 5 (.read 6 (.read 7 (.one 8 (.one 9 .nil))))) (.one 4 (.read 5 (.read 6 (.read 7 (.one 9 .nil)))))) (.one 3 (.one 4 (.read 5 (.read 6 (.read 7 (.one 9 .nil))))))) (.one 1 (.one 3 (.one 4 (.read 5 (.read 6 (.read 7 (.one 9 .nil)))))))))) (fun W => W.cell? ⟨w.heap.size, 0, none⟩ = some (vnw0) ∧ W.cell? ⟨w.heap.size, 1, none⟩ = some (vnw1) ∧ W.cell? ⟨w.heap.size, 2, none⟩ = some (vnw2) ∧ W.cell? ⟨w.heap.size, 3, none⟩ = some (vnw3) ∧ W.cell? ⟨w.heap.size + 1, 0, none⟩ = some (.string x.name) ∧ W.cell? ⟨w.heap.size + 1, 1, none⟩ = some (.string x.site) ∧ W.cell? ⟨w.heap.size + 1, 2, none⟩ = some (.string x.antenna) ∧ W.cell? ⟨w.heap.size + 1, 3, none⟩ = some (.string x.radio) ∧ W.cell? ⟨w.heap.size + 1, 4, none⟩ = some (.string x.band) ∧ W.cell? ⟨w.heap.size + 1, 5, none⟩ = some (.int .i64 x.azimuth) ∧ W.cell? ⟨w.heap.size + 1, 6, none⟩ = some (.int .i64 x.tilt) ∧ W.cell? ⟨w.heap.size + 1, 7, none⟩ = some (.int .i64 x.above) ∧ W.cell? ⟨w.heap.size + 1, 8, none⟩ = some (.int .i64 x.channel)) (by kernel_rfl) (by kernel_rfl) (HKB.out _ BBd.out) ?_
    have zd : w12.heap.size ≤ w12.drew.heap.size := Nat.le_refl _
    generalize w12.drew = Y at *
    refine wpTree_read (v := ?_) rfl (fun _ _ _ h => h) ?_ ?_
    rotate_left
    · (intro W hSW; (try dsimp only at hSW); (go_simp <;> with_reducible rfl))
    (try simp only [Act.put, List.setIfInBounds_toArray, List.set_cons_zero, List.set_cons_succ])
    refine wpTree_read (v := ?_) rfl (fun _ _ _ h => h) ?_ ?_
    rotate_left
    · (intro W hSW; (try dsimp only at hSW); (go_simp <;> with_reducible rfl))
    (try simp only [Act.put, List.setIfInBounds_toArray, List.set_cons_zero, List.set_cons_succ])
    refine wpTree_two ?_ ?_
    · refine stepT_mk rfl (fun K hK => ?_)
      go_simp
      refine (to_Network nw _ _ _ _ _ ((Hnw0.out.below (BB12.out.trans (BBd.out.mono (by omega)))).mono (by omega)) ((Hnw1.out.below (BB12.out.trans (BBd.out.mono (by omega)))).mono (by omega)) ((Hnw2.out.below (BB12.out.trans (BBd.out.mono (by omega)))).mono (by omega)) ((Hnw3.out.below (BB12.out.trans (BBd.out.mono (by omega)))).mono (by omega)) (by omega)).mono ?_
      rintro e Y1 ⟨atnw0, ctnw0, atnw1, ctnw1, atnw2, ctnw2, atnw3, ctnw3, ftnw, rfl, hb1, ov1, iv1⟩
      refine hK.out _ _ (HKB.out _ (BBd.out.trans (hb1.mono (by omega)))) ?_
      clear hK K
      (try simp only [Act.put, List.setIfInBounds_toArray, List.set_cons_zero, List.set_cons_succ])
      have OT1 := Lib.hid ov1
      have itnw := iv1
      clear ov1 iv1
      have bs1 : Y.heap.size ≤ Y1.heap.size := hb1.size
      have BY1 := Lib.hid (BBd.out.trans (hb1.mono (by omega)))
      clear hb1
      refine wpTree_two ?_ ?_
      · refine stepT_mk rfl (fun K hK => ?_)
        go_simp
        refine (to_Sector x _).mono ?_
        rintro e Y2 ⟨rfl, hb2⟩
        refine hK.out _ _ (HKB.out _ (BY1.out.trans (hb2.mono (by omega)))) ?_
        clear hK K
        (try simp only [Act.put, List.setIfInBounds_toArray, List.set_cons_zero, List.set_cons_succ])
        have bs2 : Y1.heap.size ≤ Y2.heap.size := hb2.size
        have BY2 := Lib.hid (BY1.out.trans (hb2.mono (by omega)))
        have OT2_nw := Lib.hid (OT1.out.below itnw (by omega) hb2)
        clear hb2
        refine wpTree_two ?_ ?_
        · refine stepT_mk rfl (fun K hK => ?_)
          go_simp
          refine (HI.out _ _ _ _ _ (((OT2_nw.out.rd itnw).1).mono (by omega)) (((OT2_nw.out.rd itnw).2.1).mono (by omega)) (((OT2_nw.out.rd itnw).2.2.1).mono (by omega)) (((OT2_nw.out.rd itnw).2.2.2.1).mono (by omega)) (by omega) (by omega)).mono ?_
          rintro e Y3 ⟨ah00, ch00, ah01, ch01, ah02, ch02, ah03, ch03, fh0, rfl, hb3, ov3, iv3⟩
          refine hK.out _ _ (HKB.out _ (BY2.out.trans (hb3.mono (by omega)))) ?_
          clear hK K
          (try simp only [Act.put, List.setIfInBounds_toArray, List.set_cons_zero, List.set_cons_succ])
          have OR3 := Lib.hid ov3
          have ir := iv3
          clear ov3 iv3
          have bs3 : Y2.heap.size ≤ Y3.heap.size := hb3.size
          have BY3 := Lib.hid (BY2.out.trans (hb3.mono (by omega)))
          clear hb3
          refine wpTree_read (v := ?_) rfl (fun _ _ _ h => h) ?_ ?_
          rotate_left
          · (intro W hSW; (try dsimp only at hSW); (go_simp <;> with_reducible rfl))
          (try simp only [Act.put, List.setIfInBounds_toArray, List.set_cons_zero, List.set_cons_succ])
          refine wpTree_read (v := ?_) rfl (fun _ _ _ h => h) ?_ ?_
          rotate_left
          · (intro W hSW; (try dsimp only at hSW); (go_simp <;> with_reducible rfl))
          (try simp only [Act.put, List.setIfInBounds_toArray, List.set_cons_zero, List.set_cons_succ])
          refine wpTree_read (v := ?_) rfl (fun _ _ _ h => h) ?_ ?_
          rotate_left
          · (intro W hSW; (try dsimp only at hSW); (go_simp <;> with_reducible rfl))
          (try simp only [Act.put, List.setIfInBounds_toArray, List.set_cons_zero, List.set_cons_succ])
          refine wpTree_one ?_
          refine stepT_mk rfl (fun K hK => ?_)
          go_simp
          have hb4 : Below Y3.heap.size Y3 (Y3.alloc (.cells #[.slice none 0 0, .slice none 0 0, .slice none 0 0, .slice none 0 0] 35)) := (Below.refl _ _).alloc (Nat.le_refl _) _
          have kh4 := Lib.hid (blkN Y3 #[.slice none 0 0, .slice none 0 0, .slice none 0 0, .slice none 0 0] 35)
          have zl4 : Y3.heap.size + 1 ≤ (Y3.alloc (.cells #[.slice none 0 0, .slice none 0 0, .slice none 0 0, .slice none 0 0] 35)).heap.size := by simp
          refine hK.out _ _ (HKB.out _ (BY3.out.trans (hb4.mono (by omega)))) ?_
          clear hK K
          (try simp only [Act.put, List.setIfInBounds_toArray, List.set_cons_zero, List.set_cons_succ])
          generalize (Y3.alloc (.cells #[.slice none 0 0, .slice none 0 0, .slice none 0 0, .slice none 0 0] 35)) = Y4 at *
          have bs4 : Y3.heap.size ≤ Y4.heap.size := hb4.size
          have BY4 := Lib.hid (BY3.out.trans (hb4.mono (by omega)))
          have OR4 := Lib.hid (OR3.out.below ir (by omega) hb4)
          clear hb4
          refine wpTree_one ?_
          refine stepT_mk rfl (fun K hK => ?_)
          have g0_ := blkC (v := .slice none 0 0) kh4.out 0 rfl
          have g1_ := blkC (v := .slice none 0 0) kh4.out 1 rfl
          have g2_ := blkC (v := .slice none 0 0) kh4.out 2 rfl
          have g3_ := blkC (v := .slice none 0 0) kh4.out 3 rfl
          have fz := blkF kh4.out
          have kf_ : ((((Y4.setCell ⟨Y3.heap.size, 0, none⟩ (.slice ah00 R.1.sites.length ch00)).setCell ⟨Y3.heap.size, 1, none⟩ (.slice ah01 R.1.sectors.length ch01)).setCell ⟨Y3.heap.size, 2, none⟩ (.slice ah02 R.1.antennas.length ch02)).setCell ⟨Y3.heap.size, 3, none⟩ (.slice ah03 R.1.radios.length ch03)).heap[Y3.heap.size]? = some (.cells #[.slice ah00 R.1.sites.length ch00, .slice ah01 R.1.sectors.length ch01, .slice ah02 R.1.antennas.length ch02, .slice ah03 R.1.radios.length ch03] 35 (0, 0)) := by
            have h_ := blkS (blkS (blkS (blkS (kh4.out) 0 (.slice ah00 R.1.sites.length ch00)) 1 (.slice ah01 R.1.sectors.length ch01)) 2 (.slice ah02 R.1.antennas.length ch02)) 3 (.slice ah03 R.1.radios.length ch03)
            simpa using h_
          have KF := Lib.hid kf_
          clear kf_
          have BF := Lib.hid (((((BY4.out).setCell (p := ⟨Y3.heap.size, 0, none⟩) (by show w12.heap.size ≤ Y3.heap.size; omega) (.slice ah00 R.1.sites.length ch00)).setCell (p := ⟨Y3.heap.size, 1, none⟩) (by show w12.heap.size ≤ Y3.heap.size; omega) (.slice ah01 R.1.sectors.length ch01)).setCell (p := ⟨Y3.heap.size, 2, none⟩) (by show w12.heap.size ≤ Y3.heap.size; omega) (.slice ah02 R.1.antennas.length ch02)).setCell (p := ⟨Y3.heap.size, 3, none⟩) (by show w12.heap.size ≤ Y3.heap.size; omega) (.slice ah03 R.1.radios.length ch03))
          have OF := Lib.hid (((((OR4.out).setFar (p := ⟨Y3.heap.size, 0, none⟩) (fun e => by have := ir _ e; simp only at this; omega) (.slice ah00 R.1.sites.length ch00)).setFar (p := ⟨Y3.heap.size, 1, none⟩) (fun e => by have := ir _ e; simp only at this; omega) (.slice ah01 R.1.sectors.length ch01)).setFar (p := ⟨Y3.heap.size, 2, none⟩) (fun e => by have := ir _ e; simp only at this; omega) (.slice ah02 R.1.antennas.length ch02)).setFar (p := ⟨Y3.heap.size, 3, none⟩) (fun e => by have := ir _ e; simp only at this; omega) (.slice ah03 R.1.radios.length ch03))
          have zs5 : Y4.heap.size ≤ ((((Y4.setCell ⟨Y3.heap.size, 0, none⟩ (.slice ah00 R.1.sites.length ch00)).setCell ⟨Y3.heap.size, 1, none⟩ (.slice ah01 R.1.sectors.length ch01)).setCell ⟨Y3.heap.size, 2, none⟩ (.slice ah02 R.1.antennas.length ch02)).setCell ⟨Y3.heap.size, 3, none⟩ (.slice ah03 R.1.radios.length ch03)).heap.size := by simp only [size_setCell]; omega
          go_simp
          refine hK.out _ _ (HKB.out _ BF.out) ?_
          clear hK K fz g0_ g1_ g2_ g3_
          (try simp only [Act.put, List.setIfInBounds_toArray, List.set_cons_zero, List.set_cons_succ])
          generalize ((((Y4.setCell ⟨Y3.heap.size, 0, none⟩ (.slice ah00 R.1.sites.length ch00)).setCell ⟨Y3.heap.size, 1, none⟩ (.slice ah01 R.1.sectors.length ch01)).setCell ⟨Y3.heap.size, 2, none⟩ (.slice ah02 R.1.antennas.length ch02)).setCell ⟨Y3.heap.size, 3, none⟩ (.slice ah03 R.1.radios.length ch03)) = Y5 at *
          refine wpTree_nil ?_
          simp only [List.drop_succ_cons, List.drop_zero]
          go_wp2_with fail
          go_meet
          exact ⟨_, ah00, ch00, ah01, ch01, ah02, ch02, ah03, ch03, fh0, _, _, rfl, rfl, KF.out, by omega, by omega, BF.out, OF.out, ir, by omega, by omega, by omega⟩
        · refine stepT_mk rfl (fun K hK => ?_)
          go_simp
          have hb6 : Below Y2.heap.size Y2 (Y2.alloc (.cells #[.slice none 0 0, .slice none 0 0, .slice none 0 0, .slice none 0 0] 35)) := (Below.refl _ _).alloc (Nat.le_refl _) _
          have kh6 := Lib.hid (blkN Y2 #[.slice none 0 0, .slice none 0 0, .slice none 0 0, .slice none 0 0] 35)
          have zl6 : Y2.heap.size + 1 ≤ (Y2.alloc (.cells #[.slice none 0 0, .slice none 0 0, .slice none 0 0, .slice none 0 0] 35)).heap.size := by simp
          refine hK.out _ _ (HKB.out _ (BY2.out.trans (hb6.mono (by omega)))) ?_
          clear hK K
          (try simp only [Act.put, List.setIfInBounds_toArray, List.set_cons_zero, List.set_cons_succ])
          generalize (Y2.alloc (.cells #[.slice none 0 0, .slice none 0 0, .slice none 0 0, .slice none 0 0] 35)) = Y6 at *
          have bs6 : Y2.heap.size ≤ Y6.heap.size := hb6.size
          have BY6 := Lib.hid (BY2.out.trans (hb6.mono (by omega)))
          have OT6_nw := Lib.hid (OT2_nw.out.below itnw (by omega) hb6)
          clear hb6
          refine wpTree_one ?_
          refine stepT_mk rfl (fun K hK => ?_)
          go_simp
          refine (HI.out _ _ _ _ _ (((OT6_nw.out.rd itnw).1).mono (by omega)) (((OT6_nw.out.rd itnw).2.1).mono (by omega)) (((OT6_nw.out.rd itnw).2.2.1).mono (by omega)) (((OT6_nw.out.rd itnw).2.2.2.1).mono (by omega)) (by omega) (by omega)).mono ?_
          rintro e Y7 ⟨ah00, ch00, ah01, ch01, ah02, ch02, ah03, ch03, fh0, rfl, hb7, ov7, iv7⟩
          refine hK.out _ _ (HKB.out _ (BY6.out.trans (hb7.mono (by omega)))) ?_
          clear hK K
          (try simp only [Act.put, List.setIfInBounds_toArray, List.set_cons_zero, List.set_cons_succ])
          have OR7 := Lib.hid ov7
          have ir := iv7
          clear ov7 iv7
          have bs7 : Y6.heap.size ≤ Y7.heap.size := hb7.size
          have BY7 := Lib.hid (BY6.out.trans (hb7.mono (by omega)))
          have kh7 := Lib.hid (blkB kh6.out hb7 (by omega))
          clear hb7
          refine wpTree_read (v := ?_) rfl (fun _ _ _ h => h) ?_ ?_
          rotate_left
          · (intro W hSW; (try dsimp only at hSW); (go_simp <;> with_reducible rfl))
          (try simp only [Act.put, List.setIfInBounds_toArray, List.set_cons_zero, List.set_cons_succ])
          refine wpTree_read (v := ?_) rfl (fun _ _ _ h => h) ?_ ?_
          rotate_left
          · (intro W hSW; (try dsimp only at hSW); (go_simp <;> with_reducible rfl))
          (try simp only [Act.put, List.setIfInBounds_toArray, List.set_cons_zero, List.set_cons_succ])
          refine wpTree_read (v := ?_) rfl (fun _ _ _ h => h) ?_ ?_
          rotate_left
          · (intro W hSW; (try dsimp only at hSW); (go_simp <;> with_reducible rfl))
          (try simp only [Act.put, List.setIfInBounds_toArray, List.set_cons_zero, List.set_cons_succ])
          refine wpTree_one ?_
          refine stepT_mk rfl (fun K hK => ?_)
          have g0_ := blkC (v := .slice none 0 0) kh7.out 0 rfl
          have g1_ := blkC (v := .slice none 0 0) kh7.out 1 rfl
          have g2_ := blkC (v := .slice none 0 0) kh7.out 2 rfl
          have g3_ := blkC (v := .slice none 0 0) kh7.out 3 rfl
          have fz := blkF kh7.out
          have kf_ : ((((Y7.setCell ⟨Y2.heap.size, 0, none⟩ (.slice ah00 R.1.sites.length ch00)).setCell ⟨Y2.heap.size, 1, none⟩ (.slice ah01 R.1.sectors.length ch01)).setCell ⟨Y2.heap.size, 2, none⟩ (.slice ah02 R.1.antennas.length ch02)).setCell ⟨Y2.heap.size, 3, none⟩ (.slice ah03 R.1.radios.length ch03)).heap[Y2.heap.size]? = some (.cells #[.slice ah00 R.1.sites.length ch00, .slice ah01 R.1.sectors.length ch01, .slice ah02 R.1.antennas.length ch02, .slice ah03 R.1.radios.length ch03] 35 (0, 0)) := by
            have h_ := blkS (blkS (blkS (blkS (kh7.out) 0 (.slice ah00 R.1.sites.length ch00)) 1 (.slice ah01 R.1.sectors.length ch01)) 2 (.slice ah02 R.1.antennas.length ch02)) 3 (.slice ah03 R.1.radios.length ch03)
            simpa using h_
          have KF := Lib.hid kf_
          clear kf_
          have BF := Lib.hid (((((BY7.out).setCell (p := ⟨Y2.heap.size, 0, none⟩) (by show w12.heap.size ≤ Y2.heap.size; omega) (.slice ah00 R.1.sites.length ch00)).setCell (p := ⟨Y2.heap.size, 1, none⟩) (by show w12.heap.size ≤ Y2.heap.size; omega) (.slice ah01 R.1.sectors.length ch01)).setCell (p := ⟨Y2.heap.size, 2, none⟩) (by show w12.heap.size ≤ Y2.heap.size; omega) (.slice ah02 R.1.antennas.length ch02)).setCell (p := ⟨Y2.heap.size, 3, none⟩) (by show w12.heap.size ≤ Y2.heap.size; omega) (.slice ah03 R.1.radios.length ch03))
          have OF := Lib.hid (((((OR7.out).setFar (p := ⟨Y2.heap.size, 0, none⟩) (fun e => by have := ir _ e; simp only at this; omega) (.slice ah00 R.1.sites.length ch00)).setFar (p := ⟨Y2.heap.size, 1, none⟩) (fun e => by have := ir _ e; simp only at this; omega) (.slice ah01 R.1.sectors.length ch01)).setFar (p := ⟨Y2.heap.size, 2, none⟩) (fun e => by have := ir _ e; simp only at this; omega) (.slice ah02 R.1.antennas.length ch02)).setFar (p := ⟨Y2.heap.size, 3, none⟩) (fun e => by have := ir _ e; simp only at this; omega) (.slice ah03 R.1.radios.length ch03))
          have zs8 : Y7.heap.size ≤ ((((Y7.setCell ⟨Y2.heap.size, 0, none⟩ (.slice ah00 R.1.sites.length ch00)).setCell ⟨Y2.heap.size, 1, none⟩ (.slice ah01 R.1.sectors.length ch01)).setCell ⟨Y2.heap.size, 2, none⟩ (.slice ah02 R.1.antennas.length ch02)).setCell ⟨Y2.heap.size, 3, none⟩ (.slice ah03 R.1.radios.length ch03)).heap.size := by simp only [size_setCell]; omega
          go_simp
          refine hK.out _ _ (HKB.out _ BF.out) ?_
          clear hK K fz g0_ g1_ g2_ g3_
          (try simp only [Act.put, List.setIfInBounds_toArray, List.set_cons_zero, List.set_cons_succ])
          generalize ((((Y7.setCell ⟨Y2.heap.size, 0, none⟩ (.slice ah00 R.1.sites.length ch00)).setCell ⟨Y2.heap.size, 1, none⟩ (.slice ah01 R.1.sectors.length ch01)).setCell ⟨Y2.heap.size, 2, none⟩ (.slice ah02 R.1.antennas.length ch02)).setCell ⟨Y2.heap.size, 3, none⟩ (.slice ah03 R.1.radios.length ch03)) = Y8 at *
          refine wpTree_nil ?_
          simp only [List.drop_succ_cons, List.drop_zero]
          go_wp2_with fail
          go_meet
          exact ⟨_, ah00, ch00, ah01, ch01, ah02, ch02, ah03, ch03, fh0, _, _, rfl, rfl, KF.out, by omega, by omega, BF.out, OF.out, ir, by omega, by omega, by omega⟩
      · refine stepT_mk rfl (fun K hK => ?_)
        go_simp
        have hb9 : Below Y1.heap.size Y1 (Y1.alloc (.cells #[.slice none 0 0, .slice none 0 0, .slice none 0 0, .slice none 0 0] 35)) := (Below.refl _ _).alloc (Nat.le_refl _) _
        have kh9 := Lib.hid (blkN Y1 #[.slice none 0 0, .slice none 0 0, .slice none 0 0, .slice none 0 0] 35)
        have zl9 : Y1.heap.size + 1 ≤ (Y1.alloc (.cells #[.slice none 0 0, .slice none 0 0, .slice none 0 0, .slice none 0 0] 35)).heap.size := by simp
        refine hK.out _ _ (HKB.out _ (BY1.out.trans (hb9.mono (by omega)))) ?_
        clear hK K
        (try simp only [Act.put, List.setIfInBounds_toArray, List.set_cons_zero, List.set_cons_succ])
        generalize (Y1.alloc (.cells #[.slice none 0 0, .slice none 0 0, .slice none 0 0, .slice none 0 0] 35)) = Y9 at *
        have bs9 : Y1.heap.size ≤ Y9.heap.size := hb9.size
        have BY9 := Lib.hid (BY1.out.trans (hb9.mono (by omega)))
        have OT9_nw := Lib.hid (OT1.out.below itnw (by omega) hb9)
        clear hb9
        refine wpTree_one ?_
        refine stepT_mk rfl (fun K hK => ?_)
        go_simp
        refine (to_Sector x _).mono ?_
        rintro e Y10 ⟨rfl, hb10⟩
        refine hK.out _ _ (HKB.out _ (BY9.out.trans (hb10.mono (by omega)))) ?_
        clear hK K
        (try simp only [Act.put, List.setIfInBounds_toArray, List.set_cons_zero, List.set_cons_succ])
        have bs10 : Y9.heap.size ≤ Y10.heap.size := hb10.size
        have BY10 := Lib.hid (BY9.out.trans (hb10.mono (by omega)))
        have kh10 := Lib.hid (blkB kh9.out hb10 (by omega))
        have OT10_nw := Lib.hid (OT9_nw.out.below itnw (by omega) hb10)
        clear hb10
        refine wpTree_one ?_
        refine stepT_mk rfl (fun K hK => ?_)
        go_simp
        refine (HI.out _ _ _ _ _ (((OT10_nw.out.rd itnw).1).mono (by omega)) (((OT10_nw.out.rd itnw).2.1).mono (by omega)) (((OT10_nw.out.rd itnw).2.2.1).mono (by omega)) (((OT10_nw.out.rd itnw).2.2.2.1).mono (by omega)) (by omega) (by omega)).mono ?_
        rintro e Y11 ⟨ah00, ch00, ah01, ch01, ah02, ch02, ah03, ch03, fh0, rfl, hb11, ov11, iv11⟩
        refine hK.out _ _ (HKB.out _ (BY10.out.trans (hb11.mono (by omega)))) ?_
        clear hK K
        (try simp only [Act.put, List.setIfInBounds_toArray, List.set_cons_zero, List.set_cons_succ])
        have OR11 := Lib.hid ov11
        have ir := iv11
        clear ov11 iv11
        have bs11 : Y10.heap.size ≤ Y11.heap.size := hb11.size
        have BY11 := Lib.hid (BY10.out.trans (hb11.mono (by omega)))
        have kh11 := Lib.hid (blkB kh10.out hb11 (by omega))
        clear hb11
        refine wpTree_read (v := ?_) rfl (fun _ _ _ h => h) ?_ ?_
        rotate_left
        · (intro W hSW; (try dsimp only at hSW); (go_simp <;> with_reducible rfl))
        (try simp only [Act.put, List.setIfInBounds_toArray, List.set_cons_zero, List.set_cons_succ])
        refine wpTree_read (v := ?_) rfl (fun _ _ _ h => h) ?_ ?_
        rotate_left
        · (intro W hSW; (try dsimp only at hSW); (go_simp <;> with_reducible rfl))
        (try simp only [Act.put, List.setIfInBounds_toArray, List.set_cons_zero, List.set_cons_succ])
        refine wpTree_read (v := ?_) rfl (fun _ _ _ h => h) ?_ ?_
        rotate_left
        · (intro W hSW; (try dsimp only at hSW); (go_simp <;> with_reducible rfl))
        (try simp only [Act.put, List.setIfInBounds_toArray, List.set_cons_zero, List.set_cons_succ])
        refine wpTree_one ?_
        refine stepT_mk rfl (fun K hK => ?_)
        have g0_ := blkC (v := .slice none 0 0) kh11.out 0 rfl
        have g1_ := blkC (v := .slice none 0 0) kh11.out 1 rfl
        have g2_ := blkC (v := .slice none 0 0) kh11.out 2 rfl
        have g3_ := blkC (v := .slice none 0 0) kh11.out 3 rfl
        have fz := blkF kh11.out
        have kf_ : ((((Y11.setCell ⟨Y1.heap.size, 0, none⟩ (.slice ah00 R.1.sites.length ch00)).setCell ⟨Y1.heap.size, 1, none⟩ (.slice ah01 R.1.sectors.length ch01)).setCell ⟨Y1.heap.size, 2, none⟩ (.slice ah02 R.1.antennas.length ch02)).setCell ⟨Y1.heap.size, 3, none⟩ (.slice ah03 R.1.radios.length ch03)).heap[Y1.heap.size]? = some (.cells #[.slice ah00 R.1.sites.length ch00, .slice ah01 R.1.sectors.length ch01, .slice ah02 R.1.antennas.length ch02, .slice ah03 R.1.radios.length ch03] 35 (0, 0)) := by
          have h_ := blkS (blkS (blkS (blkS (kh11.out) 0 (.slice ah00 R.1.sites.length ch00)) 1 (.slice ah01 R.1.sectors.length ch01)) 2 (.slice ah02 R.1.antennas.length ch02)) 3 (.slice ah03 R.1.radios.length ch03)
          simpa using h_
        have KF := Lib.hid kf_
        clear kf_
        have BF := Lib.hid (((((BY11.out).setCell (p := ⟨Y1.heap.size, 0, none⟩) (by show w12.heap.size ≤ Y1.heap.size; omega) (.slice ah00 R.1.sites.length ch00)).setCell (p := ⟨Y1.heap.size, 1, none⟩) (by show w12.heap.size ≤ Y1.heap.size; omega) (.slice ah01 R.1.sectors.length ch01)).setCell (p := ⟨Y1.heap.size, 2, none⟩) (by show w12.heap.size ≤ Y1.heap.size; omega) (.slice ah02 R.1.antennas.length ch02)).setCell (p := ⟨Y1.heap.size, 3, none⟩) (by show w12.heap.size ≤ Y1.heap.size; omega) (.slice ah03 R.1.radios.length ch03))
        have OF := Lib.hid (((((OR11.out).setFar (p := ⟨Y1.heap.size, 0, none⟩) (fun e => by have := ir _ e; simp only at this; omega) (.slice ah00 R.1.sites.length ch00)).setFar (p := ⟨Y1.heap.size, 1, none⟩) (fun e => by have := ir _ e; simp only at this; omega) (.slice ah01 R.1.sectors.length ch01)).setFar (p := ⟨Y1.heap.size, 2, none⟩) (fun e => by have := ir _ e; simp only at this; omega) (.slice ah02 R.1.antennas.length ch02)).setFar (p := ⟨Y1.heap.size, 3, none⟩) (fun e => by have := ir _ e; simp only at this; omega) (.slice ah03 R.1.radios.length ch03))
        have zs12 : Y11.heap.size ≤ ((((Y11.setCell ⟨Y1.heap.size, 0, none⟩ (.slice ah00 R.1.sites.length ch00)).setCell ⟨Y1.heap.size, 1, none⟩ (.slice ah01 R.1.sectors.length ch01)).setCell ⟨Y1.heap.size, 2, none⟩ (.slice ah02 R.1.antennas.length ch02)).setCell ⟨Y1.heap.size, 3, none⟩ (.slice ah03 R.1.radios.length ch03)).heap.size := by simp only [size_setCell]; omega
        go_simp
        refine hK.out _ _ (HKB.out _ BF.out) ?_
        clear hK K fz g0_ g1_ g2_ g3_
        (try simp only [Act.put, List.setIfInBounds_toArray, List.set_cons_zero, List.set_cons_succ])
        generalize ((((Y11.setCell ⟨Y1.heap.size, 0, none⟩ (.slice ah00 R.1.sites.length ch00)).setCell ⟨Y1.heap.size, 1, none⟩ (.slice ah01 R.1.sectors.length ch01)).setCell ⟨Y1.heap.size, 2, none⟩ (.slice ah02 R.1.antennas.length ch02)).setCell ⟨Y1.heap.size, 3, none⟩ (.slice ah03 R.1.radios.length ch03)) = Y12 at *
        refine wpTree_nil ?_
        simp only [List.drop_succ_cons, List.drop_zero]
        go_wp2_with fail
        go_meet
        exact ⟨_, ah00, ch00, ah01, ch01, ah02, ch02, ah03, ch03, fh0, _, _, rfl, rfl, KF.out, by omega, by omega, BF.out, OF.out, ir, by omega, by omega, by omega⟩
    · refine stepT_mk rfl (fun K hK => ?_)
      go_simp
      have hb13 : Below Y.heap.size Y (Y.alloc (.cells #[.slice none 0 0, .slice none 0 0, .slice none 0 0, .slice none 0 0] 35)) := (Below.refl _ _).alloc (Nat.le_refl _) _
      have kh13 := Lib.hid (blkN Y #[.slice none 0 0, .slice none 0 0, .slice none 0 0, .slice none 0 0] 35)
      have zl13 : Y.heap.size + 1 ≤ (Y.alloc (.cells #[.slice none 0 0, .slice none 0 0, .slice none 0 0, .slice none 0 0] 35)).heap.size := by simp
      refine hK.out _ _ (HKB.out _ (BBd.out.trans (hb13.mono (by omega)))) ?_
      clear hK K
      (try simp only [Act.put, List.setIfInBounds_toArray, List.set_cons_zero, List.set_cons_succ])
      generalize (Y.alloc (.cells #[.slice none 0 0, .slice none 0 0, .slice none 0 0, .slice none 0 0] 35)) = Y13 at *
      have bs13 : Y.heap.size ≤ Y13.heap.size := hb13.size
      have BY13 := Lib.hid (BBd.out.trans (hb13.mono (by omega)))
      clear hb13
      refine wpTree_one ?_
      refine stepT_mk rfl (fun K hK => ?_)
      go_simp
      refine (to_Network nw _ _ _ _ _ ((Hnw0.out.below (BB12.out.trans (BY13.out.mono (by omega)))).mono (by omega)) ((Hnw1.out.below (BB12.out.trans (BY13.out.mono (by omega)))).mono (by omega)) ((Hnw2.out.below (BB12.out.trans (BY13.out.mono (by omega)))).mono (by omega)) ((Hnw3.out.below (BB12.out.trans (BY13.out.mono (by omega)))).mono (by omega)) (by omega)).mono ?_
      rintro e Y14 ⟨atnw0, ctnw0, atnw1, ctnw1, atnw2, ctnw2, atnw3, ctnw3, ftnw, rfl, hb14, ov14, iv14⟩
      refine hK.out _ _ (HKB.out _ (BY13.out.trans (hb14.mono (by omega)))) ?_
      clear hK K
      (try simp only [Act.put, List.setIfInBounds_toArray, List.set_cons_zero, List.set_cons_succ])
      have OT14 := Lib.hid ov14
      have itnw := iv14
      clear ov14 iv14
      have bs14 : Y13.heap.size ≤ Y14.heap.size := hb14.size
      have BY14 := Lib.hid (BY13.out.trans (hb14.mono (by omega)))
      have kh14 := Lib.hid (blkB kh13.out hb14 (by omega))
      clear hb14
      refine wpTree_one ?_
      refine stepT_mk rfl (fun K hK => ?_)
      go_simp
      refine (to_Sector x _).mono ?_
      rintro e Y15 ⟨rfl, hb15⟩
      refine hK.out _ _ (HKB.out _ (BY14.out.trans (hb15.mono (by omega)))) ?_
      clear hK K
      (try simp only [Act.put, List.setIfInBounds_toArray, List.set_cons_zero, List.set_cons_succ])
      have bs15 : Y14.heap.size ≤ Y15.heap.size := hb15.size
      have BY15 := Lib.hid (BY14.out.trans (hb15.mono (by omega)))
      have kh15 := Lib.hid (blkB kh14.out hb15 (by omega))
      have OT15_nw := Lib.hid (OT14.out.below itnw (by omega) hb15)
      clear hb15
      refine wpTree_one ?_
      refine stepT_mk rfl (fun K hK => ?_)
      go_simp
      refine (HI.out _ _ _ _ _ (((OT15_nw.out.rd itnw).1).mono (by omega)) (((OT15_nw.out.rd itnw).2.1).mono (by omega)) (((OT15_nw.out.rd itnw).2.2.1).mono (by omega)) (((OT15_nw.out.rd itnw).2.2.2.1).mono (by omega)) (by omega) (by omega)).mono ?_
      rintro e Y16 ⟨ah00, ch00, ah01, ch01, ah02, ch02, ah03, ch03, fh0, rfl, hb16, ov16, iv16⟩
      refine hK.out _ _ (HKB.out _ (BY15.out.trans (hb16.mono (by omega)))) ?_
      clear hK K
      (try simp only [Act.put, List.setIfInBounds_toArray, List.set_cons_zero, List.set_cons_succ])
      have OR16 := Lib.hid ov16
      have ir := iv16
      clear ov16 iv16
      have bs16 : Y15.heap.size ≤ Y16.heap.size := hb16.size
      have BY16 := Lib.hid (BY15.out.trans (hb16.mono (by omega)))
      have kh16 := Lib.hid (blkB kh15.out hb16 (by omega))
      clear hb16
      refine wpTree_read (v := ?_) rfl (fun _ _ _ h => h) ?_ ?_
      rotate_left
      · (intro W hSW; (try dsimp only at hSW); (go_simp <;> with_reducible rfl))
      (try simp only [Act.put, List.setIfInBounds_toArray, List.set_cons_zero, List.set_cons_succ])
      refine wpTree_read (v := ?_) rfl (fun _ _ _ h => h) ?_ ?_
      rotate_left
      · (intro W hSW; (try dsimp only at hSW); (go_simp <;> with_reducible rfl))
      (try simp only [Act.put, List.setIfInBounds_toArray, List.set_cons_zero, List.set_cons_succ])
      refine wpTree_read (v := ?_) rfl (fun _ _ _ h => h) ?_ ?_
      rotate_left
      · (intro W hSW; (try dsimp only at hSW); (go_simp <;> with_reducible rfl))
      (try simp only [Act.put, List.setIfInBounds_toArray, List.set_cons_zero, List.set_cons_succ])
      refine wpTree_one ?_
      refine stepT_mk rfl (fun K hK => ?_)
      have g0_ := blkC (v := .slice none 0 0) kh16.out 0 rfl
      have g1_ := blkC (v := .slice none 0 0) kh16.out 1 rfl
      have g2_ := blkC (v := .slice none 0 0) kh16.out 2 rfl
      have g3_ := blkC (v := .slice none 0 0) kh16.out 3 rfl
      have fz := blkF kh16.out
      have kf_ : ((((Y16.setCell ⟨Y.heap.size, 0, none⟩ (.slice ah00 R.1.sites.length ch00)).setCell ⟨Y.heap.size, 1, none⟩ (.slice ah01 R.1.sectors.length ch01)).setCell ⟨Y.heap.size, 2, none⟩ (.slice ah02 R.1.antennas.length ch02)).setCell ⟨Y.heap.size, 3, none⟩ (.slice ah03 R.1.radios.length ch03)).heap[Y.heap.size]? = some (.cells #[.slice ah00 R.1.sites.length ch00, .slice ah01 R.1.sectors.length ch01, .slice ah02 R.1.antennas.length ch02, .slice ah03 R.1.radios.length ch03] 35 (0, 0)) := by
        have h_ := blkS (blkS (blkS (blkS (kh16.out) 0 (.slice ah00 R.1.sites.length ch00)) 1 (.slice ah01 R.1.sectors.length ch01)) 2 (.slice ah02 R.1.antennas.length ch02)) 3 (.slice ah03 R.1.radios.length ch03)
        simpa using h_
      have KF := Lib.hid kf_
      clear kf_
      have BF := Lib.hid (((((BY16.out).setCell (p := ⟨Y.heap.size, 0, none⟩) (by show w12.heap.size ≤ Y.heap.size; omega) (.slice ah00 R.1.sites.length ch00)).setCell (p := ⟨Y.heap.size, 1, none⟩) (by show w12.heap.size ≤ Y.heap.size; omega) (.slice ah01 R.1.sectors.length ch01)).setCell (p := ⟨Y.heap.size, 2, none⟩) (by show w12.heap.size ≤ Y.heap.size; omega) (.slice ah02 R.1.antennas.length ch02)).setCell (p := ⟨Y.heap.size, 3, none⟩) (by show w12.heap.size ≤ Y.heap.size; omega) (.slice ah03 R.1.radios.length ch03))
      have OF := Lib.hid (((((OR16.out).setFar (p := ⟨Y.heap.size, 0, none⟩) (fun e => by have := ir _ e; simp only at this; omega) (.slice ah00 R.1.sites.length ch00)).setFar (p := ⟨Y.heap.size, 1, none⟩) (fun e => by have := ir _ e; simp only at this; omega) (.slice ah01 R.1.sectors.length ch01)).setFar (p := ⟨Y.heap.size, 2, none⟩) (fun e => by have := ir _ e; simp only at this; omega) (.slice ah02 R.1.antennas.length ch02)).setFar (p := ⟨Y.heap.size, 3, none⟩) (fun e => by have := ir _ e; simp only at this; omega) (.slice ah03 R.1.radios.length ch03))
      have zs17 : Y16.heap.size ≤ ((((Y16.setCell ⟨Y.heap.size, 0, none⟩ (.slice ah00 R.1.sites.length ch00)).setCell ⟨Y.heap.size, 1, none⟩ (.slice ah01 R.1.sectors.length ch01)).setCell ⟨Y.heap.size, 2, none⟩ (.slice ah02 R.1.antennas.length ch02)).setCell ⟨Y.heap.size, 3, none⟩ (.slice ah03 R.1.radios.length ch03)).heap.size := by simp only [size_setCell]; omega
      go_simp
      refine hK.out _ _ (HKB.out _ BF.out) ?_
      clear hK K fz g0_ g1_ g2_ g3_
      (try simp only [Act.put, List.setIfInBounds_toArray, List.set_cons_zero, List.set_cons_succ])
      generalize ((((Y16.setCell ⟨Y.heap.size, 0, none⟩ (.slice ah00 R.1.sites.length ch00)).setCell ⟨Y.heap.size, 1, none⟩ (.slice ah01 R.1.sectors.length ch01)).setCell ⟨Y.heap.size, 2, none⟩ (.slice ah02 R.1.antennas.length ch02)).setCell ⟨Y.heap.size, 3, none⟩ (.slice ah03 R.1.radios.length ch03)) = Y17 at *
      refine wpTree_nil ?_
      simp only [List.drop_succ_cons, List.drop_zero]
      go_wp2_with fail
      go_meet
      exact ⟨_, ah00, ch00, ah01, ch01, ah02, ch02, ah03, ch03, fh0, _, _, rfl, rfl, KF.out, by omega, by omega, BF.out, OF.out, ir, by omega, by omega, by omega⟩
  obtain ⟨hh, ah00, ch00, ah01, ch01, ah02, ch02, ah03, ch03, fh0, loh, hih, e0_, e1_, khh, hloh, hhih, hb13, ov13, iv13, hlo2h, hhi2h, hnfh⟩ := hcut
  subst e0_ e1_
  generalize wc = w13 at *
  have fch0 := blkC (v := .slice ah00 R.1.sites.length ch00) khh 0 rfl
  have fch1 := blkC (v := .slice ah01 R.1.sectors.length ch01) khh 1 rfl
  have fch2 := blkC (v := .slice ah02 R.1.antennas.length ch02) khh 2 rfl
  have fch3 := blkC (v := .slice ah03 R.1.radios.length ch03) khh 3 rfl
  clear khh HKB BBd
  have hbb13 : Below w12.heap.size w12 w13 := hb13
  have z13 := hbb13.size
  obtain ⟨qAnw13, _, yAnw13⟩ := bcellAt hb13 (b := w.heap.size) (by first | omega | (simp; done) | (simp; omega))
  obtain ⟨qAx13, _, yAx13⟩ := bcellAt hb13 (b := w.heap.size + 1) (by first | omega | (simp; done) | (simp; omega))
  obtain ⟨qS013, _, yS013⟩ := bcellAt hb13 (b := hs) (by first | omega | (simp; done) | (simp; omega))
  obtain ⟨qUnw13, _, yUnw13⟩ := bcellAt hb13 (b := w4.heap.size) (by first | omega | (simp; done) | (simp; omega))
  obtain ⟨qG013, _, yG013⟩ := bcellAt hb13 (b := hg) (by first | omega | (simp; done) | (simp; omega))
  have BB13 := Lib.hid (BB12.out.trans (hbb13.mono (by omega)))
  have os00_13 := Lib.hid (os00_12.out.below is00 (by omega) hbb13)
  have os01_13 := Lib.hid (os01_12.out.below is01 (by omega) hbb13)
  have os02_13 := Lib.hid (os02_12.out.below is02 (by omega) hbb13)
  have os03_13 := Lib.hid (os03_12.out.below is03 (by omega) hbb13)
  have kog00_13 := Lib.hid (kog00_12.out.below ig00 (by omega) hbb13)
  have kog01_13 := Lib.hid (kog01_12.out.below ig01 (by omega) hbb13)
  have kog02_13 := Lib.hid (kog02_12.out.below ig02 (by omega) hbb13)
  have kog03_13 := Lib.hid (kog03_12.out.below ig03 (by omega) hbb13)
  clear hbb13
  obtain ⟨g13_0, r13_0, e13_0, p13_0, ov13_0, d13_0⟩ := OwnV.uncons ov13
  obtain ⟨g13_1, r13_1, e13_1, p13_1, ov13_1, d13_1⟩ := OwnV.uncons ov13_0
  obtain ⟨g13_2, r13_2, e13_2, p13_2, ov13_2, d13_2⟩ := OwnV.uncons ov13_1
  obtain ⟨g13_3, r13_3, e13_3, p13_3, ov13_3, d13_3⟩ := OwnV.uncons ov13_2
  have iw13 := iv13
  have hnil13 := ov13_3.rep
  change r13_3 = [] at hnil13
  subst hnil13
  subst e13_3
  subst e13_2
  subst e13_1
  subst e13_0
  have ih00 : In _ _ g13_0 := fun y hy => iw13 y (by simp [hy])
  have oh00_13 := Lib.hid p13_0
  have ih01 : In _ _ g13_1 := fun y hy => iw13 y (by simp [hy])
  have oh01_13 := Lib.hid p13_1
  have ih02 : In _ _ g13_2 := fun y hy => iw13 y (by simp [hy])
  have oh02_13 := Lib.hid p13_2
  have ih03 : In _ _ g13_3 := fun y hy => iw13 y (by simp [hy])
  have oh03_13 := Lib.hid p13_3
  have djh00_1 : ∀ y ∈ g13_0, y ∉ g13_1 := fun y hy e => d13_0 y hy (by simp [e])
  have djh00_2 : ∀ y ∈ g13_0, y ∉ g13_2 := fun y hy e => d13_0 y hy (by simp [e])
  have djh00_3 : ∀ y ∈ g13_0, y ∉ g13_3 := fun y hy e => d13_0 y hy (by simp [e])
  have djh01_2 : ∀ y ∈ g13_1, y ∉ g13_2 := fun y hy e => d13_1 y hy (by simp [e])
  have djh01_3 : ∀ y ∈ g13_1, y ∉ g13_3 := fun y hy e => d13_1 y hy (by simp [e])
  have djh02_3 : ∀ y ∈ g13_2, y ∉ g13_3 := fun y hy e => d13_2 y hy (by simp [e])
  clear p13_0 ov13_0 d13_0 p13_1 ov13_1 d13_1 p13_2 ov13_2 d13_2 p13_3 ov13_3 d13_3 ov13 iv13 iw13
  go_wp2_with fail
  refine ((eq_Network R.1 _ _ _ _ _ _ _ _ w13.heap.size _ ((oh00_13.out.rd ih00).mono (by omega)) ((os00_13.out.rd is00).mono (by omega)) ((oh01_13.out.rd ih01).mono (by omega)) ((os01_13.out.rd is01).mono (by omega)) ((oh02_13.out.rd ih02).mono (by omega)) ((os02_13.out.rd is02).mono (by omega)) ((oh03_13.out.rd ih03).mono (by omega)) ((os03_13.out.rd is03).mono (by omega)) (Nat.le_refl _) (by omega))).mono ?_
  rintro e w14 ⟨rfl, hb14⟩
  have hbb14 : Below w13.heap.size w13 w14 := hb14
  have z14 := hbb14.size
  obtain ⟨qAnw14, _, yAnw14⟩ := bcellAt hb14 (b := w.heap.size) (by first | omega | (simp; done) | (simp; omega))
  obtain ⟨qAx14, _, yAx14⟩ := bcellAt hb14 (b := w.heap.size + 1) (by first | omega | (simp; done) | (simp; omega))
  obtain ⟨qS014, _, yS014⟩ := bcellAt hb14 (b := hs) (by first | omega | (simp; done) | (simp; omega))
  obtain ⟨qUnw14, _, yUnw14⟩ := bcellAt hb14 (b := w4.heap.size) (by first | omega | (simp; done) | (simp; omega))
  obtain ⟨qG014, _, yG014⟩ := bcellAt hb14 (b := hg) (by first | omega | (simp; done) | (simp; omega))
  obtain ⟨qH014, _, yH014⟩ := bcellAt hb14 (b := hh) (by first | omega | (simp; done) | (simp; omega))
  have BB14 := Lib.hid (BB13.out.trans (hbb14.mono (by omega)))
  have os00_14 := Lib.hid (os00_13.out.below is00 (by omega) hbb14)
  have os01_14 := Lib.hid (os01_13.out.below is01 (by omega) hbb14)
  have os02_14 := Lib.hid (os02_13.out.below is02 (by omega) hbb14)
  have os03_14 := Lib.hid (os03_13.out.below is03 (by omega) hbb14)
  have kog00_14 := Lib.hid (kog00_13.out.below ig00 (by omega) hbb14)
  have kog01_14 := Lib.hid (kog01_13.out.below ig01 (by omega) hbb14)
  have kog02_14 := Lib.hid (kog02_13.out.below ig02 (by omega) hbb14)
  have kog03_14 := Lib.hid (kog03_13.out.below ig03 (by omega) hbb14)
  have oh00_14 := Lib.hid (oh00_13.out.below ih00 (by omega) hbb14)
  have oh01_14 := Lib.hid (oh01_13.out.below ih01 (by omega) hbb14)
  have oh02_14 := Lib.hid (oh02_13.out.below ih02 (by omega) hbb14)
  have oh03_14 := Lib.hid (oh03_13.out.below ih03 (by omega) hbb14)
  clear hbb14
  go_wp2_with fail
  refine (held_Network R.1 _ _ _ _ w14.heap.size (1) _ ((kog00_14.out.rd ig00).mono (by omega)) ((kog01_14.out.rd ig01).mono (by omega)) ((kog02_14.out.rd ig02).mono (by omega)) ((kog03_14.out.rd ig03).mono (by omega)) (Nat.le_refl _) (by omega) (by omega) (by omega)).mono ?_
  rintro e w15 ⟨rfl, hb15⟩
  have hbb15 : Below w14.heap.size w14 w15 := hb15
  have z15 := hbb15.size
  obtain ⟨qAnw15, _, yAnw15⟩ := bcellAt hb15 (b := w.heap.size) (by first | omega | (simp; done) | (simp; omega))
  obtain ⟨qAx15, _, yAx15⟩ := bcellAt hb15 (b := w.heap.size + 1) (by first | omega | (simp; done) | (simp; omega))
  obtain ⟨qS015, _, yS015⟩ := bcellAt hb15 (b := hs) (by first | omega | (simp; done) | (simp; omega))
  obtain ⟨qUnw15, _, yUnw15⟩ := bcellAt hb15 (b := w4.heap.size) (by first | omega | (simp; done) | (simp; omega))
  obtain ⟨qG015, _, yG015⟩ := bcellAt hb15 (b := hg) (by first | omega | (simp; done) | (simp; omega))
  obtain ⟨qH015, _, yH015⟩ := bcellAt hb15 (b := hh) (by first | omega | (simp; done) | (simp; omega))
  have BB15 := Lib.hid (BB14.out.trans (hbb15.mono (by omega)))
  have kog00_15 := Lib.hid (kog00_14.out.below ig00 (by omega) hbb15)
  have kog01_15 := Lib.hid (kog01_14.out.below ig01 (by omega) hbb15)
  have kog02_15 := Lib.hid (kog02_14.out.below ig02 (by omega) hbb15)
  have kog03_15 := Lib.hid (kog03_14.out.below ig03 (by omega) hbb15)
  clear hbb15
  go_wp2
  go_ret
  exact ⟨rfl, BB15.out⟩
end Go.Proofs.YtppgcgopnchbcaaGreat.fnExactAddSector
