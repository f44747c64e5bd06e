/- The walk of the law FnExactSameDesk: it returns true. -/
import Derived.Test.YtjfmkmcefnidcaaGreatSame8
import Derived.Test.YtjfmkmcefnidcaaGreatHDesk
import Derived.Test.YtjfmkmcefnidcaaGreatTree
import Derived.Deep.RegionHeld3
namespace Go.Proofs.YtjfmkmcefnidcaaGreat.fnExactSameDesk
open Go.RowKit
set_option linter.unusedVariables false
set_option maxHeartbeats 60000000 in
set_option maxRecDepth 100000 in
theorem walk (da : DDesk) (db : DDesk) (vda3 vda4 vda5 vda6 vda7 vda8 vda9 vda10 vda11 vda12 vda14 vdb3 vdb4 vdb5 vdb6 vdb7 vdb8 vdb9 vdb10 vdb11 vdb12 vdb14 : Value) (w : World) (rda3 : Rd w.heap.size w (intsT da.plan.terrain.heights) vda3) (rda4 : Rd w.heap.size w (intsT da.plan.terrain.clutter) vda4) (rda5 : Rd w.heap.size w (DSite.sT da.plan.network.sites) vda5) (rda6 : Rd w.heap.size w (DSector.sT da.plan.network.sectors) vda6) (rda7 : Rd w.heap.size w (DAntenna.sT da.plan.network.antennas) vda7) (rda8 : Rd w.heap.size w (DRadio.sT da.plan.network.radios) vda8) (rda9 : Rd w.heap.size w (DBand.sT da.plan.bands) vda9) (rda10 : Rd w.heap.size w (DLicence.sT da.plan.licences) vda10) (rda11 : Rd w.heap.size w (DProtected.sT da.plan.protected_) vda11) (rda12 : Rd w.heap.size w (intssT da.plan.apart) vda12) (rda14 : Rd w.heap.size w (DRequest.sT da.requests) vda14) (rdb3 : Rd w.heap.size w (intsT db.plan.terrain.heights) vdb3) (rdb4 : Rd w.heap.size w (intsT db.plan.terrain.clutter) vdb4) (rdb5 : Rd w.heap.size w (DSite.sT db.plan.network.sites) vdb5) (rdb6 : Rd w.heap.size w (DSector.sT db.plan.network.sectors) vdb6) (rdb7 : Rd w.heap.size w (DAntenna.sT db.plan.network.antennas) vdb7) (rdb8 : Rd w.heap.size w (DRadio.sT db.plan.network.radios) vdb8) (rdb9 : Rd w.heap.size w (DBand.sT db.plan.bands) vdb9) (rdb10 : Rd w.heap.size w (DLicence.sT db.plan.licences) vdb10) (rdb11 : Rd w.heap.size w (DProtected.sT db.plan.protected_) vdb11) (rdb12 : Rd w.heap.size w (intssT db.plan.apart) vdb12) (rdb14 : Rd w.heap.size w (DRequest.sT db.requests) vdb14) (hk_da : da.ok) (hk_db : db.ok) :
    Calls Tryz.prog 3 #[.agg #[.int .i64 da.plan.terrain.step, .int .i64 da.plan.terrain.width, .int .i64 da.plan.terrain.height, vda3, vda4, vda5, vda6, vda7, vda8, vda9, vda10, vda11, vda12, .int .i64 da.plan.day, vda14], .agg #[.int .i64 db.plan.terrain.step, .int .i64 db.plan.terrain.width, .int .i64 db.plan.terrain.height, vdb3, vdb4, vdb5, vdb6, vdb7, vdb8, vdb9, vdb10, vdb11, vdb12, .int .i64 db.plan.day, vdb14]] w fun e w' => e = .returned (.bool true) ∧ Below w.heap.size w w' := by
  have Hda3 := Lib.hid rda3
  have Hda4 := Lib.hid rda4
  have Hda5 := Lib.hid rda5
  have Hda6 := Lib.hid rda6
  have Hda7 := Lib.hid rda7
  have Hda8 := Lib.hid rda8
  have Hda9 := Lib.hid rda9
  have Hda10 := Lib.hid rda10
  have Hda11 := Lib.hid rda11
  have Hda12 := Lib.hid rda12
  have Hda14 := Lib.hid rda14
  have Hdb3 := Lib.hid rdb3
  have Hdb4 := Lib.hid rdb4
  have Hdb5 := Lib.hid rdb5
  have Hdb6 := Lib.hid rdb6
  have Hdb7 := Lib.hid rdb7
  have Hdb8 := Lib.hid rdb8
  have Hdb9 := Lib.hid rdb9
  have Hdb10 := Lib.hid rdb10
  have Hdb11 := Lib.hid rdb11
  have Hdb12 := Lib.hid rdb12
  have Hdb14 := Lib.hid rdb14
  clear rda3 rda4 rda5 rda6 rda7 rda8 rda9 rda10 rda11 rda12 rda14 rdb3 rdb4 rdb5 rdb6 rdb7 rdb8 rdb9 rdb10 rdb11 rdb12 rdb14
  have hq_da := DDesk.siz_tr da
  have hq_db := DDesk.siz_tr db
  have BB0 : Hid (Below w.heap.size w w) := Below.refl _ _
  generalize hR : sameDesk da db = R at *
  have HR := Lib.hid hR
  clear hR
  have HS : Hid (∀ (W : World) (xda3 xda4 xda5 xda6 xda7 xda8 xda9 xda10 xda11 xda12 xda14 xdb3 xdb4 xdb5 xdb6 xdb7 xdb8 xdb9 xdb10 xdb11 xdb12 xdb14 : Value), Rd W.heap.size W (intsT da.plan.terrain.heights) xda3 → Rd W.heap.size W (intsT da.plan.terrain.clutter) xda4 → Rd W.heap.size W (DSite.sT da.plan.network.sites) xda5 → Rd W.heap.size W (DSector.sT da.plan.network.sectors) xda6 → Rd W.heap.size W (DAntenna.sT da.plan.network.antennas) xda7 → Rd W.heap.size W (DRadio.sT da.plan.network.radios) xda8 → Rd W.heap.size W (DBand.sT da.plan.bands) xda9 → Rd W.heap.size W (DLicence.sT da.plan.licences) xda10 → Rd W.heap.size W (DProtected.sT da.plan.protected_) xda11 → Rd W.heap.size W (intssT da.plan.apart) xda12 → Rd W.heap.size W (DRequest.sT da.requests) xda14 → Rd W.heap.size W (intsT db.plan.terrain.heights) xdb3 → Rd W.heap.size W (intsT db.plan.terrain.clutter) xdb4 → Rd W.heap.size W (DSite.sT db.plan.network.sites) xdb5 → Rd W.heap.size W (DSector.sT db.plan.network.sectors) xdb6 → Rd W.heap.size W (DAntenna.sT db.plan.network.antennas) xdb7 → Rd W.heap.size W (DRadio.sT db.plan.network.radios) xdb8 → Rd W.heap.size W (DBand.sT db.plan.bands) xdb9 → Rd W.heap.size W (DLicence.sT db.plan.licences) xdb10 → Rd W.heap.size W (DProtected.sT db.plan.protected_) xdb11 → Rd W.heap.size W (intssT db.plan.apart) xdb12 → Rd W.heap.size W (DRequest.sT db.requests) xdb14 → sizL da.tr ≤ 1048576 → sizL db.tr ≤ 1048576 → Calls Tryz.prog 7 #[.agg #[.int .i64 da.plan.terrain.step, .int .i64 da.plan.terrain.width, .int .i64 da.plan.terrain.height, xda3, xda4, xda5, xda6, xda7, xda8, xda9, xda10, xda11, xda12, .int .i64 da.plan.day, xda14], .agg #[.int .i64 db.plan.terrain.step, .int .i64 db.plan.terrain.width, .int .i64 db.plan.terrain.height, xdb3, xdb4, xdb5, xdb6, xdb7, xdb8, xdb9, xdb10, xdb11, xdb12, .int .i64 db.plan.day, xdb14]] W (fun e w' => e = .returned (.bool R) ∧ Below W.heap.size W w')) := fun W xda3 xda4 xda5 xda6 xda7 xda8 xda9 xda10 xda11 xda12 xda14 xdb3 xdb4 xdb5 xdb6 xdb7 xdb8 xdb9 xdb10 xdb11 xdb12 xdb14 yda3 yda4 yda5 yda6 yda7 yda8 yda9 yda10 yda11 yda12 yda14 ydb3 ydb4 ydb5 ydb6 ydb7 ydb8 ydb9 ydb10 ydb11 ydb12 ydb14 z0 z1 => by rw [← HR.out]; exact sSameDesk_std da db xda3 xda4 xda5 xda6 xda7 xda8 xda9 xda10 xda11 xda12 xda14 xdb3 xdb4 xdb5 xdb6 xdb7 xdb8 xdb9 xdb10 xdb11 xdb12 xdb14 W yda3 yda4 yda5 yda6 yda7 yda8 yda9 yda10 yda11 yda12 yda14 ydb3 ydb4 ydb5 ydb6 ydb7 ydb8 ydb9 ydb10 ydb11 ydb12 ydb14 z0 hk_da z1 hk_db
  have HI : Hid (∀ (W : World) (xda3 xda4 xda5 xda6 xda7 xda8 xda9 xda10 xda11 xda12 xda14 xdb3 xdb4 xdb5 xdb6 xdb7 xdb8 xdb9 xdb10 xdb11 xdb12 xdb14 : Value), Rd W.heap.size W (intsT da.plan.terrain.heights) xda3 → Rd W.heap.size W (intsT da.plan.terrain.clutter) xda4 → Rd W.heap.size W (DSite.sT da.plan.network.sites) xda5 → Rd W.heap.size W (DSector.sT da.plan.network.sectors) xda6 → Rd W.heap.size W (DAntenna.sT da.plan.network.antennas) xda7 → Rd W.heap.size W (DRadio.sT da.plan.network.radios) xda8 → Rd W.heap.size W (DBand.sT da.plan.bands) xda9 → Rd W.heap.size W (DLicence.sT da.plan.licences) xda10 → Rd W.heap.size W (DProtected.sT da.plan.protected_) xda11 → Rd W.heap.size W (intssT da.plan.apart) xda12 → Rd W.heap.size W (DRequest.sT da.requests) xda14 → Rd W.heap.size W (intsT db.plan.terrain.heights) xdb3 → Rd W.heap.size W (intsT db.plan.terrain.clutter) xdb4 → Rd W.heap.size W (DSite.sT db.plan.network.sites) xdb5 → Rd W.heap.size W (DSector.sT db.plan.network.sectors) xdb6 → Rd W.heap.size W (DAntenna.sT db.plan.network.antennas) xdb7 → Rd W.heap.size W (DRadio.sT db.plan.network.radios) xdb8 → Rd W.heap.size W (DBand.sT db.plan.bands) xdb9 → Rd W.heap.size W (DLicence.sT db.plan.licences) xdb10 → Rd W.heap.size W (DProtected.sT db.plan.protected_) xdb11 → Rd W.heap.size W (intssT db.plan.apart) xdb12 → Rd W.heap.size W (DRequest.sT db.requests) xdb14 → sizL da.tr ≤ 1048576 → sizL db.tr ≤ 1048576 → Calls Tryz.prog 9 #[.agg #[.int .i64 da.plan.terrain.step, .int .i64 da.plan.terrain.width, .int .i64 da.plan.terrain.height, xda3, xda4, xda5, xda6, xda7, xda8, xda9, xda10, xda11, xda12, .int .i64 da.plan.day, xda14], .agg #[.int .i64 db.plan.terrain.step, .int .i64 db.plan.terrain.width, .int .i64 db.plan.terrain.height, xdb3, xdb4, xdb5, xdb6, xdb7, xdb8, xdb9, xdb10, xdb11, xdb12, .int .i64 db.plan.day, xdb14]] W (fun e w' => e = .returned (.bool R) ∧ Below W.heap.size W w')) := fun W xda3 xda4 xda5 xda6 xda7 xda8 xda9 xda10 xda11 xda12 xda14 xdb3 xdb4 xdb5 xdb6 xdb7 xdb8 xdb9 xdb10 xdb11 xdb12 xdb14 yda3 yda4 yda5 yda6 yda7 yda8 yda9 yda10 yda11 yda12 yda14 ydb3 ydb4 ydb5 ydb6 ydb7 ydb8 ydb9 ydb10 ydb11 ydb12 ydb14 z0 z1 => by rw [← HR.out]; exact iSameDesk_std da db xda3 xda4 xda5 xda6 xda7 xda8 xda9 xda10 xda11 xda12 xda14 xdb3 xdb4 xdb5 xdb6 xdb7 xdb8 xdb9 xdb10 xdb11 xdb12 xdb14 W yda3 yda4 yda5 yda6 yda7 yda8 yda9 yda10 yda11 yda12 yda14 ydb3 ydb4 ydb5 ydb6 ydb7 ydb8 ydb9 ydb10 ydb11 ydb12 ydb14 z0 hk_da z1 hk_db
  go_enter Tryz.func3, Tryz.ntmps3
  go_wp2_with fail
  have BX1 : Hid (Below w.heap.size w ((w.alloc (.cells #[.int .i64 da.plan.terrain.step, .int .i64 da.plan.terrain.width, .int .i64 da.plan.terrain.height, vda3, vda4, vda5, vda6, vda7, vda8, vda9, vda10, vda11, vda12, .int .i64 da.plan.day, vda14] 39)).alloc (.cells #[.int .i64 db.plan.terrain.step, .int .i64 db.plan.terrain.width, .int .i64 db.plan.terrain.height, vdb3, vdb4, vdb5, vdb6, vdb7, vdb8, vdb9, vdb10, vdb11, vdb12, .int .i64 db.plan.day, vdb14] 39))) := ((BB0.out.alloc (by first | omega | (simp; done) | (simp; omega)) _).alloc (by first | omega | (simp; done) | (simp; omega)) _)
  have zx1 := BX1.out.size
  refine (sz_Desk da vda3 vda4 vda5 vda6 vda7 vda8 vda9 vda10 vda11 vda12 vda14 w.heap.size _ _ (Hda3.out.below BX1.out) (Hda4.out.below BX1.out) (Hda5.out.below BX1.out) (Hda6.out.below BX1.out) (Hda7.out.below BX1.out) (Hda8.out.below BX1.out) (Hda9.out.below BX1.out) (Hda10.out.below BX1.out) (Hda11.out.below BX1.out) (Hda12.out.below BX1.out) (Hda14.out.below BX1.out) (by omega) (by omega) (by omega) hk_da).mono ?_
  rintro e w1 ⟨⟨cz1, rfl⟩ | ⟨cz1, rfl⟩, hb1⟩
  case inr =>
    go_wp2
    go_ret
    exact ⟨rfl, BX1.out.trans (hb1.mono (by omega))⟩
  have cy1 : decide ((1048576 : Int) - sizL da.tr < 0) = false := by simp; omega
  have hx1 : Below w.heap.size w ((w.alloc (.cells #[.int .i64 da.plan.terrain.step, .int .i64 da.plan.terrain.width, .int .i64 da.plan.terrain.height, vda3, vda4, vda5, vda6, vda7, vda8, vda9, vda10, vda11, vda12, .int .i64 da.plan.day, vda14] 39)).alloc (.cells #[.int .i64 db.plan.terrain.step, .int .i64 db.plan.terrain.width, .int .i64 db.plan.terrain.height, vdb3, vdb4, vdb5, vdb6, vdb7, vdb8, vdb9, vdb10, vdb11, vdb12, .int .i64 db.plan.day, vdb14] 39)) := (((Below.refl _ _).alloc (Nat.le_refl _) _).alloc (by first | (simp; done) | (simp; omega)) _)
  have hbb1 : Below w.heap.size w w1 := hx1.trans (hb1.mono (by first | (simp; done) | (simp; omega)))
  have z1 := hbb1.size
  obtain ⟨qAda1, _, yAda1⟩ := bcellAt hb1 (b := w.heap.size) (by first | omega | (simp; done) | (simp; omega))
  obtain ⟨qAdb1, _, yAdb1⟩ := bcellAt hb1 (b := w.heap.size + 1) (by first | omega | (simp; done) | (simp; omega))
  have BB1 := Lib.hid (BB0.out.trans (hbb1.mono (by omega)))
  clear hx1
  clear hb1 hbb1
  have CZ1 := Lib.hid cy1
  as_aux_lemma =>
   go_wp2_with fail
   have BX2 : Hid (Below w.heap.size w w1) := BB1.out
   have zx2 := BX2.out.size
   refine (sz_Desk db vdb3 vdb4 vdb5 vdb6 vdb7 vdb8 vdb9 vdb10 vdb11 vdb12 vdb14 w.heap.size _ _ (Hdb3.out.below BX2.out) (Hdb4.out.below BX2.out) (Hdb5.out.below BX2.out) (Hdb6.out.below BX2.out) (Hdb7.out.below BX2.out) (Hdb8.out.below BX2.out) (Hdb9.out.below BX2.out) (Hdb10.out.below BX2.out) (Hdb11.out.below BX2.out) (Hdb12.out.below BX2.out) (Hdb14.out.below BX2.out) (by omega) (by omega) (by omega) hk_db).mono ?_
   rintro e w2 ⟨⟨cz2, rfl⟩ | ⟨cz2, rfl⟩, hb2⟩
   case inr =>
     go_wp2
     go_ret
     exact ⟨rfl, BX2.out.trans (hb2.mono (by omega))⟩
   have cy2 : decide (((1048576 : Int) - sizL da.tr) - sizL db.tr < 0) = false := by simp; omega
   have hbb2 : Below w1.heap.size w1 w2 := hb2
   have z2 := hbb2.size
   obtain ⟨qAda2, _, yAda2⟩ := bcellAt hb2 (b := w.heap.size) (by first | omega | (simp; done) | (simp; omega))
   obtain ⟨qAdb2, _, yAdb2⟩ := bcellAt hb2 (b := w.heap.size + 1) (by first | omega | (simp; done) | (simp; omega))
   have BB2 := Lib.hid (BB1.out.trans (hbb2.mono (by omega)))
   clear hbb2
   have CZ2 := Lib.hid cy2
   as_aux_lemma =>
    go_wp2
    have hcf : w2.cell? ⟨w.heap.size, 0, none⟩ = some (.int .i64 da.plan.terrain.step) ∧ w2.cell? ⟨w.heap.size, 1, none⟩ = some (.int .i64 da.plan.terrain.width) ∧ w2.cell? ⟨w.heap.size, 2, none⟩ = some (.int .i64 da.plan.terrain.height) ∧ w2.cell? ⟨w.heap.size, 3, none⟩ = some (vda3) ∧ w2.cell? ⟨w.heap.size, 4, none⟩ = some (vda4) ∧ w2.cell? ⟨w.heap.size, 5, none⟩ = some (vda5) ∧ w2.cell? ⟨w.heap.size, 6, none⟩ = some (vda6) ∧ w2.cell? ⟨w.heap.size, 7, none⟩ = some (vda7) ∧ w2.cell? ⟨w.heap.size, 8, none⟩ = some (vda8) ∧ w2.cell? ⟨w.heap.size, 9, none⟩ = some (vda9) ∧ w2.cell? ⟨w.heap.size, 10, none⟩ = some (vda10) ∧ w2.cell? ⟨w.heap.size, 11, none⟩ = some (vda11) ∧ w2.cell? ⟨w.heap.size, 12, none⟩ = some (vda12) ∧ w2.cell? ⟨w.heap.size, 13, none⟩ = some (.int .i64 da.plan.day) ∧ w2.cell? ⟨w.heap.size, 14, none⟩ = some (vda14) ∧ w2.cell? ⟨w.heap.size + 1, 0, none⟩ = some (.int .i64 db.plan.terrain.step) ∧ w2.cell? ⟨w.heap.size + 1, 1, none⟩ = some (.int .i64 db.plan.terrain.width) ∧ w2.cell? ⟨w.heap.size + 1, 2, none⟩ = some (.int .i64 db.plan.terrain.height) ∧ w2.cell? ⟨w.heap.size + 1, 3, none⟩ = some (vdb3) ∧ w2.cell? ⟨w.heap.size + 1, 4, none⟩ = some (vdb4) ∧ w2.cell? ⟨w.heap.size + 1, 5, none⟩ = some (vdb5) ∧ w2.cell? ⟨w.heap.size + 1, 6, none⟩ = some (vdb6) ∧ w2.cell? ⟨w.heap.size + 1, 7, none⟩ = some (vdb7) ∧ w2.cell? ⟨w.heap.size + 1, 8, none⟩ = some (vdb8) ∧ w2.cell? ⟨w.heap.size + 1, 9, none⟩ = some (vdb9) ∧ w2.cell? ⟨w.heap.size + 1, 10, none⟩ = some (vdb10) ∧ w2.cell? ⟨w.heap.size + 1, 11, none⟩ = some (vdb11) ∧ w2.cell? ⟨w.heap.size + 1, 12, none⟩ = some (vdb12) ∧ w2.cell? ⟨w.heap.size + 1, 13, none⟩ = some (.int .i64 db.plan.day) ∧ w2.cell? ⟨w.heap.size + 1, 14, none⟩ = some (vdb14) := by refine ⟨?_, ?_, ?_, ?_, ?_, ?_, ?_, ?_, ?_, ?_, ?_, ?_, ?_, ?_, ?_, ?_, ?_, ?_, ?_, ?_, ?_, ?_, ?_, ?_, ?_, ?_, ?_, ?_, ?_, ?_⟩ <;> simp [go_sem, *]
    have HKB : Hid (∀ W : World, Below w2.heap.size w2 W → W.cell? ⟨w.heap.size, 0, none⟩ = some (.int .i64 da.plan.terrain.step) ∧ W.cell? ⟨w.heap.size, 1, none⟩ = some (.int .i64 da.plan.terrain.width) ∧ W.cell? ⟨w.heap.size, 2, none⟩ = some (.int .i64 da.plan.terrain.height) ∧ W.cell? ⟨w.heap.size, 3, none⟩ = some (vda3) ∧ W.cell? ⟨w.heap.size, 4, none⟩ = some (vda4) ∧ W.cell? ⟨w.heap.size, 5, none⟩ = some (vda5) ∧ W.cell? ⟨w.heap.size, 6, none⟩ = some (vda6) ∧ W.cell? ⟨w.heap.size, 7, none⟩ = some (vda7) ∧ W.cell? ⟨w.heap.size, 8, none⟩ = some (vda8) ∧ W.cell? ⟨w.heap.size, 9, none⟩ = some (vda9) ∧ W.cell? ⟨w.heap.size, 10, none⟩ = some (vda10) ∧ W.cell? ⟨w.heap.size, 11, none⟩ = some (vda11) ∧ W.cell? ⟨w.heap.size, 12, none⟩ = some (vda12) ∧ W.cell? ⟨w.heap.size, 13, none⟩ = some (.int .i64 da.plan.day) ∧ W.cell? ⟨w.heap.size, 14, none⟩ = some (vda14) ∧ W.cell? ⟨w.heap.size + 1, 0, none⟩ = some (.int .i64 db.plan.terrain.step) ∧ W.cell? ⟨w.heap.size + 1, 1, none⟩ = some (.int .i64 db.plan.terrain.width) ∧ W.cell? ⟨w.heap.size + 1, 2, none⟩ = some (.int .i64 db.plan.terrain.height) ∧ W.cell? ⟨w.heap.size + 1, 3, none⟩ = some (vdb3) ∧ W.cell? ⟨w.heap.size + 1, 4, none⟩ = some (vdb4) ∧ W.cell? ⟨w.heap.size + 1, 5, none⟩ = some (vdb5) ∧ W.cell? ⟨w.heap.size + 1, 6, none⟩ = some (vdb6) ∧ W.cell? ⟨w.heap.size + 1, 7, none⟩ = some (vdb7) ∧ W.cell? ⟨w.heap.size + 1, 8, none⟩ = some (vdb8) ∧ W.cell? ⟨w.heap.size + 1, 9, none⟩ = some (vdb9) ∧ W.cell? ⟨w.heap.size + 1, 10, none⟩ = some (vdb10) ∧ W.cell? ⟨w.heap.size + 1, 11, none⟩ = some (vdb11) ∧ W.cell? ⟨w.heap.size + 1, 12, none⟩ = some (vdb12) ∧ W.cell? ⟨w.heap.size + 1, 13, none⟩ = some (.int .i64 db.plan.day) ∧ W.cell? ⟨w.heap.size + 1, 14, none⟩ = some (vdb14)) := fun W hW => by
      obtain ⟨e0, e1, e2, e3, e4, e5, e6, e7, e8, e9, e10, e11, e12, e13, e14, e15, e16, e17, e18, e19, e20, e21, e22, e23, e24, e25, e26, e27, e28, e29⟩ := hcf
      exact ⟨(bat hW _ _ (by omega)).trans e0, (bat hW _ _ (by omega)).trans e1, (bat hW _ _ (by omega)).trans e2, (bat hW _ _ (by omega)).trans e3, (bat hW _ _ (by omega)).trans e4, (bat hW _ _ (by omega)).trans e5, (bat hW _ _ (by omega)).trans e6, (bat hW _ _ (by omega)).trans e7, (bat hW _ _ (by omega)).trans e8, (bat hW _ _ (by omega)).trans e9, (bat hW _ _ (by omega)).trans e10, (bat hW _ _ (by omega)).trans e11, (bat hW _ _ (by omega)).trans e12, (bat hW _ _ (by omega)).trans e13, (bat hW _ _ (by omega)).trans e14, (bat hW _ _ (by omega)).trans e15, (bat hW _ _ (by omega)).trans e16, (bat hW _ _ (by omega)).trans e17, (bat hW _ _ (by omega)).trans e18, (bat hW _ _ (by omega)).trans e19, (bat hW _ _ (by omega)).trans e20, (bat hW _ _ (by omega)).trans e21, (bat hW _ _ (by omega)).trans e22, (bat hW _ _ (by omega)).trans e23, (bat hW _ _ (by omega)).trans e24, (bat hW _ _ (by omega)).trans e25, (bat hW _ _ (by omega)).trans e26, (bat hW _ _ (by omega)).trans e27, (bat hW _ _ (by omega)).trans e28, (bat hW _ _ (by omega)).trans e29⟩
    clear hcf
    have BBd : Hid (Below w2.heap.size w2 w2.drew) := (Below.refl _ _).drew
    go_cut [6] (fun s0 wx => s0 = .bool R ∧ Below w2.heap.size w2 wx)
    case first =>
      refine wp_region_tree 5 (.read 0 (.read 2 (.one 1 (.one 3 (.one 4 .nil))))) (fun W => W.cell? ⟨w.heap.size, 0, none⟩ = some (.int .i64 da.plan.terrain.step) ∧ W.cell? ⟨w.heap.size, 1, none⟩ = some (.int .i64 da.plan.terrain.width) ∧ W.cell? ⟨w.heap.size, 2, none⟩ = some (.int .i64 da.plan.terrain.height) ∧ W.cell? ⟨w.heap.size, 3, none⟩ = some (vda3) ∧ W.cell? ⟨w.heap.size, 4, none⟩ = some (vda4) ∧ W.cell? ⟨w.heap.size, 5, none⟩ = some (vda5) ∧ W.cell? ⟨w.heap.size, 6, none⟩ = some (vda6) ∧ W.cell? ⟨w.heap.size, 7, none⟩ = some (vda7) ∧ W.cell? ⟨w.heap.size, 8, none⟩ = some (vda8) ∧ W.cell? ⟨w.heap.size, 9, none⟩ = some (vda9) ∧ W.cell? ⟨w.heap.size, 10, none⟩ = some (vda10) ∧ W.cell? ⟨w.heap.size, 11, none⟩ = some (vda11) ∧ W.cell? ⟨w.heap.size, 12, none⟩ = some (vda12) ∧ W.cell? ⟨w.heap.size, 13, none⟩ = some (.int .i64 da.plan.day) ∧ W.cell? ⟨w.heap.size, 14, none⟩ = some (vda14) ∧ W.cell? ⟨w.heap.size + 1, 0, none⟩ = some (.int .i64 db.plan.terrain.step) ∧ W.cell? ⟨w.heap.size + 1, 1, none⟩ = some (.int .i64 db.plan.terrain.width) ∧ W.cell? ⟨w.heap.size + 1, 2, none⟩ = some (.int .i64 db.plan.terrain.height) ∧ W.cell? ⟨w.heap.size + 1, 3, none⟩ = some (vdb3) ∧ W.cell? ⟨w.heap.size + 1, 4, none⟩ = some (vdb4) ∧ W.cell? ⟨w.heap.size + 1, 5, none⟩ = some (vdb5) ∧ W.cell? ⟨w.heap.size + 1, 6, none⟩ = some (vdb6) ∧ W.cell? ⟨w.heap.size + 1, 7, none⟩ = some (vdb7) ∧ W.cell? ⟨w.heap.size + 1, 8, none⟩ = some (vdb8) ∧ W.cell? ⟨w.heap.size + 1, 9, none⟩ = some (vdb9) ∧ W.cell? ⟨w.heap.size + 1, 10, none⟩ = some (vdb10) ∧ W.cell? ⟨w.heap.size + 1, 11, none⟩ = some (vdb11) ∧ W.cell? ⟨w.heap.size + 1, 12, none⟩ = some (vdb12) ∧ W.cell? ⟨w.heap.size + 1, 13, none⟩ = some (.int .i64 db.plan.day) ∧ W.cell? ⟨w.heap.size + 1, 14, none⟩ = some (vdb14)) (by kernel_rfl) (by kernel_rfl) (HKB.out _ BBd.out) ?_
      have zd : w2.heap.size ≤ w2.drew.heap.size := Nat.le_refl _
      generalize w2.drew = Y at *
      refine wpTree_read (v := ?_) rfl (fun _ _ _ h => h) ?_ ?_
      rotate_left
      · (intro W hSW; (try dsimp only at hSW); (go_simp <;> with_reducible rfl))
      (try simp only [Act.put, List.setIfInBounds_toArray, List.set_cons_zero, List.set_cons_succ])
      refine wpTree_read (v := ?_) rfl (fun _ _ _ h => h) ?_ ?_
      rotate_left
      · (intro W hSW; (try dsimp only at hSW); (go_simp <;> with_reducible rfl))
      (try simp only [Act.put, List.setIfInBounds_toArray, List.set_cons_zero, List.set_cons_succ])
      refine wpTree_one ?_
      refine stepT_mk rfl (fun K hK => ?_)
      go_simp
      refine (to_Desk da _ _ _ _ _ _ _ _ _ _ _ _ ((Hda3.out.below (BB2.out.trans (BBd.out.mono (by omega)))).mono (by omega)) ((Hda4.out.below (BB2.out.trans (BBd.out.mono (by omega)))).mono (by omega)) ((Hda5.out.below (BB2.out.trans (BBd.out.mono (by omega)))).mono (by omega)) ((Hda6.out.below (BB2.out.trans (BBd.out.mono (by omega)))).mono (by omega)) ((Hda7.out.below (BB2.out.trans (BBd.out.mono (by omega)))).mono (by omega)) ((Hda8.out.below (BB2.out.trans (BBd.out.mono (by omega)))).mono (by omega)) ((Hda9.out.below (BB2.out.trans (BBd.out.mono (by omega)))).mono (by omega)) ((Hda10.out.below (BB2.out.trans (BBd.out.mono (by omega)))).mono (by omega)) ((Hda11.out.below (BB2.out.trans (BBd.out.mono (by omega)))).mono (by omega)) ((Hda12.out.below (BB2.out.trans (BBd.out.mono (by omega)))).mono (by omega)) ((Hda14.out.below (BB2.out.trans (BBd.out.mono (by omega)))).mono (by omega)) (by omega)).mono ?_
      rintro e Y1 ⟨atda3, ctda3, atda4, ctda4, atda5, ctda5, atda6, ctda6, atda7, ctda7, atda8, ctda8, atda9, ctda9, atda10, ctda10, atda11, ctda11, atda12, ctda12, atda14, ctda14, ftda, rfl, hb1, ov1, iv1⟩
      refine hK.out _ _ (HKB.out _ (BBd.out.trans (hb1.mono (by omega)))) ?_
      clear hK K
      (try simp only [Act.put, List.setIfInBounds_toArray, List.set_cons_zero, List.set_cons_succ])
      have OT1 := Lib.hid ov1
      have itda := iv1
      clear ov1 iv1
      have bs1 : Y.heap.size ≤ Y1.heap.size := hb1.size
      have BY1 := Lib.hid (BBd.out.trans (hb1.mono (by omega)))
      clear hb1
      refine wpTree_one ?_
      refine stepT_mk rfl (fun K hK => ?_)
      go_simp
      refine (to_Desk db _ _ _ _ _ _ _ _ _ _ _ _ ((Hdb3.out.below (BB2.out.trans (BY1.out.mono (by omega)))).mono (by omega)) ((Hdb4.out.below (BB2.out.trans (BY1.out.mono (by omega)))).mono (by omega)) ((Hdb5.out.below (BB2.out.trans (BY1.out.mono (by omega)))).mono (by omega)) ((Hdb6.out.below (BB2.out.trans (BY1.out.mono (by omega)))).mono (by omega)) ((Hdb7.out.below (BB2.out.trans (BY1.out.mono (by omega)))).mono (by omega)) ((Hdb8.out.below (BB2.out.trans (BY1.out.mono (by omega)))).mono (by omega)) ((Hdb9.out.below (BB2.out.trans (BY1.out.mono (by omega)))).mono (by omega)) ((Hdb10.out.below (BB2.out.trans (BY1.out.mono (by omega)))).mono (by omega)) ((Hdb11.out.below (BB2.out.trans (BY1.out.mono (by omega)))).mono (by omega)) ((Hdb12.out.below (BB2.out.trans (BY1.out.mono (by omega)))).mono (by omega)) ((Hdb14.out.below (BB2.out.trans (BY1.out.mono (by omega)))).mono (by omega)) (by omega)).mono ?_
      rintro e Y2 ⟨atdb3, ctdb3, atdb4, ctdb4, atdb5, ctdb5, atdb6, ctdb6, atdb7, ctdb7, atdb8, ctdb8, atdb9, ctdb9, atdb10, ctdb10, atdb11, ctdb11, atdb12, ctdb12, atdb14, ctdb14, ftdb, rfl, hb2, ov2, iv2⟩
      refine hK.out _ _ (HKB.out _ (BY1.out.trans (hb2.mono (by omega)))) ?_
      clear hK K
      (try simp only [Act.put, List.setIfInBounds_toArray, List.set_cons_zero, List.set_cons_succ])
      have OT2 := Lib.hid ov2
      have itdb := iv2
      clear ov2 iv2
      have bs2 : Y1.heap.size ≤ Y2.heap.size := hb2.size
      have BY2 := Lib.hid (BY1.out.trans (hb2.mono (by omega)))
      have OT2_da := Lib.hid (OT1.out.below itda (by omega) hb2)
      clear hb2
      refine wpTree_one ?_
      refine stepT_mk rfl (fun K hK => ?_)
      go_simp
      refine (HS.out _ _ _ _ _ _ _ _ _ _ _ _ _ _ _ _ _ _ _ _ _ _ _ (((OT2_da.out.rd itda).2.2.2.1).mono (by omega)) (((OT2_da.out.rd itda).2.2.2.2.1).mono (by omega)) (((OT2_da.out.rd itda).2.2.2.2.2.1).mono (by omega)) (((OT2_da.out.rd itda).2.2.2.2.2.2.1).mono (by omega)) (((OT2_da.out.rd itda).2.2.2.2.2.2.2.1).mono (by omega)) (((OT2_da.out.rd itda).2.2.2.2.2.2.2.2.1).mono (by omega)) (((OT2_da.out.rd itda).2.2.2.2.2.2.2.2.2.1).mono (by omega)) (((OT2_da.out.rd itda).2.2.2.2.2.2.2.2.2.2.1).mono (by omega)) (((OT2_da.out.rd itda).2.2.2.2.2.2.2.2.2.2.2.1).mono (by omega)) (((OT2_da.out.rd itda).2.2.2.2.2.2.2.2.2.2.2.2.1).mono (by omega)) (((OT2_da.out.rd itda).2.2.2.2.2.2.2.2.2.2.2.2.2.2.1).mono (by omega)) (((OT2.out.rd itdb).2.2.2.1).mono (by omega)) (((OT2.out.rd itdb).2.2.2.2.1).mono (by omega)) (((OT2.out.rd itdb).2.2.2.2.2.1).mono (by omega)) (((OT2.out.rd itdb).2.2.2.2.2.2.1).mono (by omega)) (((OT2.out.rd itdb).2.2.2.2.2.2.2.1).mono (by omega)) (((OT2.out.rd itdb).2.2.2.2.2.2.2.2.1).mono (by omega)) (((OT2.out.rd itdb).2.2.2.2.2.2.2.2.2.1).mono (by omega)) (((OT2.out.rd itdb).2.2.2.2.2.2.2.2.2.2.1).mono (by omega)) (((OT2.out.rd itdb).2.2.2.2.2.2.2.2.2.2.2.1).mono (by omega)) (((OT2.out.rd itdb).2.2.2.2.2.2.2.2.2.2.2.2.1).mono (by omega)) (((OT2.out.rd itdb).2.2.2.2.2.2.2.2.2.2.2.2.2.2.1).mono (by omega)) (by omega) (by omega)).mono ?_
      rintro e Y3 ⟨rfl, hb3⟩
      refine hK.out _ _ (HKB.out _ (BY2.out.trans (hb3.mono (by omega)))) ?_
      clear hK K
      (try simp only [Act.put, List.setIfInBounds_toArray, List.set_cons_zero, List.set_cons_succ])
      have bs3 : Y2.heap.size ≤ Y3.heap.size := hb3.size
      have BY3 := Lib.hid (BY2.out.trans (hb3.mono (by omega)))
      clear hb3
      refine wpTree_nil ?_
      simp only [List.drop_succ_cons, List.drop_zero]
      go_wp2_with fail
      go_meet
      exact ⟨rfl, BY3.out⟩
    obtain ⟨rfl, hb3⟩ := hcut
    generalize wc = w3 at *
    clear HKB BBd
    have hbb3 : Below w2.heap.size w2 w3 := hb3
    have z3 := hbb3.size
    obtain ⟨qAda3, _, yAda3⟩ := bcellAt hb3 (b := w.heap.size) (by first | omega | (simp; done) | (simp; omega))
    obtain ⟨qAdb3, _, yAdb3⟩ := bcellAt hb3 (b := w.heap.size + 1) (by first | omega | (simp; done) | (simp; omega))
    have BB3 := Lib.hid (BB2.out.trans (hbb3.mono (by omega)))
    clear hbb3
    as_aux_lemma =>
     go_wp2_with fail
     have BX4 : Hid (Below w.heap.size w w3) := BB3.out
     have zx4 := BX4.out.size
     refine (to_Desk da _ _ _ _ _ _ _ _ _ _ _ _ ((Hda3.out.below BX4.out).mono zx4) ((Hda4.out.below BX4.out).mono zx4) ((Hda5.out.below BX4.out).mono zx4) ((Hda6.out.below BX4.out).mono zx4) ((Hda7.out.below BX4.out).mono zx4) ((Hda8.out.below BX4.out).mono zx4) ((Hda9.out.below BX4.out).mono zx4) ((Hda10.out.below BX4.out).mono zx4) ((Hda11.out.below BX4.out).mono zx4) ((Hda12.out.below BX4.out).mono zx4) ((Hda14.out.below BX4.out).mono zx4) (by omega)).mono ?_
     rintro e w4 ⟨auda3, cuda3, auda4, cuda4, auda5, cuda5, auda6, cuda6, auda7, cuda7, auda8, cuda8, auda9, cuda9, auda10, cuda10, auda11, cuda11, auda12, cuda12, auda14, cuda14, fuda, rfl, hb4, ov4, iv4⟩
     have hbb4 : Below w3.heap.size w3 w4 := hb4
     have z4 := hbb4.size
     obtain ⟨qAda4, _, yAda4⟩ := bcellAt hb4 (b := w.heap.size) (by first | omega | (simp; done) | (simp; omega))
     obtain ⟨qAdb4, _, yAdb4⟩ := bcellAt hb4 (b := w.heap.size + 1) (by first | omega | (simp; done) | (simp; omega))
     have BB4 := Lib.hid (BB3.out.trans (hbb4.mono (by omega)))
     clear hbb4
     obtain ⟨g4_0, r4_0, e4_0, p4_0, ov4_0, d4_0⟩ := OwnV.uncons ov4
     obtain ⟨_, hz4_0⟩ := Rep_lit.1 p4_0.rep
     subst hz4_0
     obtain ⟨g4_1, r4_1, e4_1, p4_1, ov4_1, d4_1⟩ := OwnV.uncons ov4_0
     obtain ⟨_, hz4_1⟩ := Rep_lit.1 p4_1.rep
     subst hz4_1
     obtain ⟨g4_2, r4_2, e4_2, p4_2, ov4_2, d4_2⟩ := OwnV.uncons ov4_1
     obtain ⟨_, hz4_2⟩ := Rep_lit.1 p4_2.rep
     subst hz4_2
     obtain ⟨g4_3, r4_3, e4_3, p4_3, ov4_3, d4_3⟩ := OwnV.uncons ov4_2
     obtain ⟨g4_4, r4_4, e4_4, p4_4, ov4_4, d4_4⟩ := OwnV.uncons ov4_3
     obtain ⟨g4_5, r4_5, e4_5, p4_5, ov4_5, d4_5⟩ := OwnV.uncons ov4_4
     obtain ⟨g4_6, r4_6, e4_6, p4_6, ov4_6, d4_6⟩ := OwnV.uncons ov4_5
     obtain ⟨g4_7, r4_7, e4_7, p4_7, ov4_7, d4_7⟩ := OwnV.uncons ov4_6
     obtain ⟨g4_8, r4_8, e4_8, p4_8, ov4_8, d4_8⟩ := OwnV.uncons ov4_7
     obtain ⟨g4_9, r4_9, e4_9, p4_9, ov4_9, d4_9⟩ := OwnV.uncons ov4_8
     obtain ⟨g4_10, r4_10, e4_10, p4_10, ov4_10, d4_10⟩ := OwnV.uncons ov4_9
     obtain ⟨g4_11, r4_11, e4_11, p4_11, ov4_11, d4_11⟩ := OwnV.uncons ov4_10
     obtain ⟨g4_12, r4_12, e4_12, p4_12, ov4_12, d4_12⟩ := OwnV.uncons ov4_11
     obtain ⟨g4_13, r4_13, e4_13, p4_13, ov4_13, d4_13⟩ := OwnV.uncons ov4_12
     obtain ⟨_, hz4_13⟩ := Rep_lit.1 p4_13.rep
     subst hz4_13
     obtain ⟨g4_14, r4_14, e4_14, p4_14, ov4_14, d4_14⟩ := OwnV.uncons ov4_13
     have iw4 := iv4.mono (lo' := w3.heap.size + 0) (by first | omega | (simp; done) | (simp; omega)) (Nat.le_refl _)
     have hnil4 := ov4_14.rep
     change r4_14 = [] at hnil4
     subst hnil4
     subst e4_14
     subst e4_13
     subst e4_12
     subst e4_11
     subst e4_10
     subst e4_9
     subst e4_8
     subst e4_7
     subst e4_6
     subst e4_5
     subst e4_4
     subst e4_3
     subst e4_2
     subst e4_1
     subst e4_0
     have iuda3 : In _ _ g4_3 := fun y hy => iw4 y (by simp [hy])
     have ouda3_4 := Lib.hid p4_3
     have iuda4 : In _ _ g4_4 := fun y hy => iw4 y (by simp [hy])
     have ouda4_4 := Lib.hid p4_4
     have iuda5 : In _ _ g4_5 := fun y hy => iw4 y (by simp [hy])
     have ouda5_4 := Lib.hid p4_5
     have iuda6 : In _ _ g4_6 := fun y hy => iw4 y (by simp [hy])
     have ouda6_4 := Lib.hid p4_6
     have iuda7 : In _ _ g4_7 := fun y hy => iw4 y (by simp [hy])
     have ouda7_4 := Lib.hid p4_7
     have iuda8 : In _ _ g4_8 := fun y hy => iw4 y (by simp [hy])
     have ouda8_4 := Lib.hid p4_8
     have iuda9 : In _ _ g4_9 := fun y hy => iw4 y (by simp [hy])
     have ouda9_4 := Lib.hid p4_9
     have iuda10 : In _ _ g4_10 := fun y hy => iw4 y (by simp [hy])
     have ouda10_4 := Lib.hid p4_10
     have iuda11 : In _ _ g4_11 := fun y hy => iw4 y (by simp [hy])
     have ouda11_4 := Lib.hid p4_11
     have iuda12 : In _ _ g4_12 := fun y hy => iw4 y (by simp [hy])
     have ouda12_4 := Lib.hid p4_12
     have iuda14 : In _ _ g4_14 := fun y hy => iw4 y (by simp [hy])
     have ouda14_4 := Lib.hid p4_14
     have djuda3_4 : ∀ y ∈ g4_3, y ∉ g4_4 := fun y hy e => d4_3 y hy (by simp [e])
     have djuda3_5 : ∀ y ∈ g4_3, y ∉ g4_5 := fun y hy e => d4_3 y hy (by simp [e])
     have djuda3_6 : ∀ y ∈ g4_3, y ∉ g4_6 := fun y hy e => d4_3 y hy (by simp [e])
     have djuda3_7 : ∀ y ∈ g4_3, y ∉ g4_7 := fun y hy e => d4_3 y hy (by simp [e])
     have djuda3_8 : ∀ y ∈ g4_3, y ∉ g4_8 := fun y hy e => d4_3 y hy (by simp [e])
     have djuda3_9 : ∀ y ∈ g4_3, y ∉ g4_9 := fun y hy e => d4_3 y hy (by simp [e])
     have djuda3_10 : ∀ y ∈ g4_3, y ∉ g4_10 := fun y hy e => d4_3 y hy (by simp [e])
     have djuda3_11 : ∀ y ∈ g4_3, y ∉ g4_11 := fun y hy e => d4_3 y hy (by simp [e])
     have djuda3_12 : ∀ y ∈ g4_3, y ∉ g4_12 := fun y hy e => d4_3 y hy (by simp [e])
     have djuda3_14 : ∀ y ∈ g4_3, y ∉ g4_14 := fun y hy e => d4_3 y hy (by simp [e])
     have djuda4_5 : ∀ y ∈ g4_4, y ∉ g4_5 := fun y hy e => d4_4 y hy (by simp [e])
     have djuda4_6 : ∀ y ∈ g4_4, y ∉ g4_6 := fun y hy e => d4_4 y hy (by simp [e])
     have djuda4_7 : ∀ y ∈ g4_4, y ∉ g4_7 := fun y hy e => d4_4 y hy (by simp [e])
     have djuda4_8 : ∀ y ∈ g4_4, y ∉ g4_8 := fun y hy e => d4_4 y hy (by simp [e])
     have djuda4_9 : ∀ y ∈ g4_4, y ∉ g4_9 := fun y hy e => d4_4 y hy (by simp [e])
     have djuda4_10 : ∀ y ∈ g4_4, y ∉ g4_10 := fun y hy e => d4_4 y hy (by simp [e])
     have djuda4_11 : ∀ y ∈ g4_4, y ∉ g4_11 := fun y hy e => d4_4 y hy (by simp [e])
     have djuda4_12 : ∀ y ∈ g4_4, y ∉ g4_12 := fun y hy e => d4_4 y hy (by simp [e])
     have djuda4_14 : ∀ y ∈ g4_4, y ∉ g4_14 := fun y hy e => d4_4 y hy (by simp [e])
     have djuda5_6 : ∀ y ∈ g4_5, y ∉ g4_6 := fun y hy e => d4_5 y hy (by simp [e])
     have djuda5_7 : ∀ y ∈ g4_5, y ∉ g4_7 := fun y hy e => d4_5 y hy (by simp [e])
     have djuda5_8 : ∀ y ∈ g4_5, y ∉ g4_8 := fun y hy e => d4_5 y hy (by simp [e])
     have djuda5_9 : ∀ y ∈ g4_5, y ∉ g4_9 := fun y hy e => d4_5 y hy (by simp [e])
     have djuda5_10 : ∀ y ∈ g4_5, y ∉ g4_10 := fun y hy e => d4_5 y hy (by simp [e])
     have djuda5_11 : ∀ y ∈ g4_5, y ∉ g4_11 := fun y hy e => d4_5 y hy (by simp [e])
     have djuda5_12 : ∀ y ∈ g4_5, y ∉ g4_12 := fun y hy e => d4_5 y hy (by simp [e])
     have djuda5_14 : ∀ y ∈ g4_5, y ∉ g4_14 := fun y hy e => d4_5 y hy (by simp [e])
     have djuda6_7 : ∀ y ∈ g4_6, y ∉ g4_7 := fun y hy e => d4_6 y hy (by simp [e])
     have djuda6_8 : ∀ y ∈ g4_6, y ∉ g4_8 := fun y hy e => d4_6 y hy (by simp [e])
     have djuda6_9 : ∀ y ∈ g4_6, y ∉ g4_9 := fun y hy e => d4_6 y hy (by simp [e])
     have djuda6_10 : ∀ y ∈ g4_6, y ∉ g4_10 := fun y hy e => d4_6 y hy (by simp [e])
     have djuda6_11 : ∀ y ∈ g4_6, y ∉ g4_11 := fun y hy e => d4_6 y hy (by simp [e])
     have djuda6_12 : ∀ y ∈ g4_6, y ∉ g4_12 := fun y hy e => d4_6 y hy (by simp [e])
     have djuda6_14 : ∀ y ∈ g4_6, y ∉ g4_14 := fun y hy e => d4_6 y hy (by simp [e])
     have djuda7_8 : ∀ y ∈ g4_7, y ∉ g4_8 := fun y hy e => d4_7 y hy (by simp [e])
     have djuda7_9 : ∀ y ∈ g4_7, y ∉ g4_9 := fun y hy e => d4_7 y hy (by simp [e])
     have djuda7_10 : ∀ y ∈ g4_7, y ∉ g4_10 := fun y hy e => d4_7 y hy (by simp [e])
     have djuda7_11 : ∀ y ∈ g4_7, y ∉ g4_11 := fun y hy e => d4_7 y hy (by simp [e])
     have djuda7_12 : ∀ y ∈ g4_7, y ∉ g4_12 := fun y hy e => d4_7 y hy (by simp [e])
     have djuda7_14 : ∀ y ∈ g4_7, y ∉ g4_14 := fun y hy e => d4_7 y hy (by simp [e])
     have djuda8_9 : ∀ y ∈ g4_8, y ∉ g4_9 := fun y hy e => d4_8 y hy (by simp [e])
     have djuda8_10 : ∀ y ∈ g4_8, y ∉ g4_10 := fun y hy e => d4_8 y hy (by simp [e])
     have djuda8_11 : ∀ y ∈ g4_8, y ∉ g4_11 := fun y hy e => d4_8 y hy (by simp [e])
     have djuda8_12 : ∀ y ∈ g4_8, y ∉ g4_12 := fun y hy e => d4_8 y hy (by simp [e])
     have djuda8_14 : ∀ y ∈ g4_8, y ∉ g4_14 := fun y hy e => d4_8 y hy (by simp [e])
     have djuda9_10 : ∀ y ∈ g4_9, y ∉ g4_10 := fun y hy e => d4_9 y hy (by simp [e])
     have djuda9_11 : ∀ y ∈ g4_9, y ∉ g4_11 := fun y hy e => d4_9 y hy (by simp [e])
     have djuda9_12 : ∀ y ∈ g4_9, y ∉ g4_12 := fun y hy e => d4_9 y hy (by simp [e])
     have djuda9_14 : ∀ y ∈ g4_9, y ∉ g4_14 := fun y hy e => d4_9 y hy (by simp [e])
     have djuda10_11 : ∀ y ∈ g4_10, y ∉ g4_11 := fun y hy e => d4_10 y hy (by simp [e])
     have djuda10_12 : ∀ y ∈ g4_10, y ∉ g4_12 := fun y hy e => d4_10 y hy (by simp [e])
     have djuda10_14 : ∀ y ∈ g4_10, y ∉ g4_14 := fun y hy e => d4_10 y hy (by simp [e])
     have djuda11_12 : ∀ y ∈ g4_11, y ∉ g4_12 := fun y hy e => d4_11 y hy (by simp [e])
     have djuda11_14 : ∀ y ∈ g4_11, y ∉ g4_14 := fun y hy e => d4_11 y hy (by simp [e])
     have djuda12_14 : ∀ y ∈ g4_12, y ∉ g4_14 := fun y hy e => d4_12 y hy (by simp [e])
     clear p4_0 ov4_0 d4_0 p4_1 ov4_1 d4_1 p4_2 ov4_2 d4_2 p4_3 ov4_3 d4_3 p4_4 ov4_4 d4_4 p4_5 ov4_5 d4_5 p4_6 ov4_6 d4_6 p4_7 ov4_7 d4_7 p4_8 ov4_8 d4_8 p4_9 ov4_9 d4_9 p4_10 ov4_10 d4_10 p4_11 ov4_11 d4_11 p4_12 ov4_12 d4_12 p4_13 ov4_13 d4_13 p4_14 ov4_14 d4_14 ov4 iv4 iw4
     as_aux_lemma =>
      go_wp2_with fail
      have BX5 : Hid (Below w.heap.size w (w4.alloc (.cells #[.int .i64 da.plan.terrain.step, .int .i64 da.plan.terrain.width, .int .i64 da.plan.terrain.height, .slice auda3 da.plan.terrain.heights.length cuda3, .slice auda4 da.plan.terrain.clutter.length cuda4, .slice auda5 da.plan.network.sites.length cuda5, .slice auda6 da.plan.network.sectors.length cuda6, .slice auda7 da.plan.network.antennas.length cuda7, .slice auda8 da.plan.network.radios.length cuda8, .slice auda9 da.plan.bands.length cuda9, .slice auda10 da.plan.licences.length cuda10, .slice auda11 da.plan.protected_.length cuda11, .slice auda12 da.plan.apart.length cuda12, .int .i64 da.plan.day, .slice auda14 da.requests.length cuda14] 56))) := (BB4.out.alloc (by first | omega | (simp; done) | (simp; omega)) _)
      have zx5 := BX5.out.size
      refine (to_Desk db _ _ _ _ _ _ _ _ _ _ _ _ ((Hdb3.out.below BX5.out).mono zx5) ((Hdb4.out.below BX5.out).mono zx5) ((Hdb5.out.below BX5.out).mono zx5) ((Hdb6.out.below BX5.out).mono zx5) ((Hdb7.out.below BX5.out).mono zx5) ((Hdb8.out.below BX5.out).mono zx5) ((Hdb9.out.below BX5.out).mono zx5) ((Hdb10.out.below BX5.out).mono zx5) ((Hdb11.out.below BX5.out).mono zx5) ((Hdb12.out.below BX5.out).mono zx5) ((Hdb14.out.below BX5.out).mono zx5) (by omega)).mono ?_
      rintro e w5 ⟨audb3, cudb3, audb4, cudb4, audb5, cudb5, audb6, cudb6, audb7, cudb7, audb8, cudb8, audb9, cudb9, audb10, cudb10, audb11, cudb11, audb12, cudb12, audb14, cudb14, fudb, rfl, hb5, ov5, iv5⟩
      have hx5 : Below w4.heap.size w4 (w4.alloc (.cells #[.int .i64 da.plan.terrain.step, .int .i64 da.plan.terrain.width, .int .i64 da.plan.terrain.height, .slice auda3 da.plan.terrain.heights.length cuda3, .slice auda4 da.plan.terrain.clutter.length cuda4, .slice auda5 da.plan.network.sites.length cuda5, .slice auda6 da.plan.network.sectors.length cuda6, .slice auda7 da.plan.network.antennas.length cuda7, .slice auda8 da.plan.network.radios.length cuda8, .slice auda9 da.plan.bands.length cuda9, .slice auda10 da.plan.licences.length cuda10, .slice auda11 da.plan.protected_.length cuda11, .slice auda12 da.plan.apart.length cuda12, .int .i64 da.plan.day, .slice auda14 da.requests.length cuda14] 56)) := ((Below.refl _ _).alloc (Nat.le_refl _) _)
      have hbb5 : Below w4.heap.size w4 w5 := hx5.trans (hb5.mono (by first | (simp; done) | (simp; omega)))
      have z5 := hbb5.size
      obtain ⟨qAda5, _, yAda5⟩ := bcellAt hb5 (b := w.heap.size) (by first | omega | (simp; done) | (simp; omega))
      obtain ⟨qAdb5, _, yAdb5⟩ := bcellAt hb5 (b := w.heap.size + 1) (by first | omega | (simp; done) | (simp; omega))
      obtain ⟨qUda5, _, yUda5⟩ := bcellAt hb5 (b := w4.heap.size) (by first | omega | (simp; done) | (simp; omega))
      have BB5 := Lib.hid (BB4.out.trans (hbb5.mono (by omega)))
      have ouda3_5 := Lib.hid (ouda3_4.out.below iuda3 (by omega) hbb5)
      have ouda4_5 := Lib.hid (ouda4_4.out.below iuda4 (by omega) hbb5)
      have ouda5_5 := Lib.hid (ouda5_4.out.below iuda5 (by omega) hbb5)
      have ouda6_5 := Lib.hid (ouda6_4.out.below iuda6 (by omega) hbb5)
      have ouda7_5 := Lib.hid (ouda7_4.out.below iuda7 (by omega) hbb5)
      have ouda8_5 := Lib.hid (ouda8_4.out.below iuda8 (by omega) hbb5)
      have ouda9_5 := Lib.hid (ouda9_4.out.below iuda9 (by omega) hbb5)
      have ouda10_5 := Lib.hid (ouda10_4.out.below iuda10 (by omega) hbb5)
      have ouda11_5 := Lib.hid (ouda11_4.out.below iuda11 (by omega) hbb5)
      have ouda12_5 := Lib.hid (ouda12_4.out.below iuda12 (by omega) hbb5)
      have ouda14_5 := Lib.hid (ouda14_4.out.below iuda14 (by omega) hbb5)
      clear hx5
      clear hb5 hbb5
      obtain ⟨g5_0, r5_0, e5_0, p5_0, ov5_0, d5_0⟩ := OwnV.uncons ov5
      obtain ⟨_, hz5_0⟩ := Rep_lit.1 p5_0.rep
      subst hz5_0
      obtain ⟨g5_1, r5_1, e5_1, p5_1, ov5_1, d5_1⟩ := OwnV.uncons ov5_0
      obtain ⟨_, hz5_1⟩ := Rep_lit.1 p5_1.rep
      subst hz5_1
      obtain ⟨g5_2, r5_2, e5_2, p5_2, ov5_2, d5_2⟩ := OwnV.uncons ov5_1
      obtain ⟨_, hz5_2⟩ := Rep_lit.1 p5_2.rep
      subst hz5_2
      obtain ⟨g5_3, r5_3, e5_3, p5_3, ov5_3, d5_3⟩ := OwnV.uncons ov5_2
      obtain ⟨g5_4, r5_4, e5_4, p5_4, ov5_4, d5_4⟩ := OwnV.uncons ov5_3
      obtain ⟨g5_5, r5_5, e5_5, p5_5, ov5_5, d5_5⟩ := OwnV.uncons ov5_4
      obtain ⟨g5_6, r5_6, e5_6, p5_6, ov5_6, d5_6⟩ := OwnV.uncons ov5_5
      obtain ⟨g5_7, r5_7, e5_7, p5_7, ov5_7, d5_7⟩ := OwnV.uncons ov5_6
      obtain ⟨g5_8, r5_8, e5_8, p5_8, ov5_8, d5_8⟩ := OwnV.uncons ov5_7
      obtain ⟨g5_9, r5_9, e5_9, p5_9, ov5_9, d5_9⟩ := OwnV.uncons ov5_8
      obtain ⟨g5_10, r5_10, e5_10, p5_10, ov5_10, d5_10⟩ := OwnV.uncons ov5_9
      obtain ⟨g5_11, r5_11, e5_11, p5_11, ov5_11, d5_11⟩ := OwnV.uncons ov5_10
      obtain ⟨g5_12, r5_12, e5_12, p5_12, ov5_12, d5_12⟩ := OwnV.uncons ov5_11
      obtain ⟨g5_13, r5_13, e5_13, p5_13, ov5_13, d5_13⟩ := OwnV.uncons ov5_12
      obtain ⟨_, hz5_13⟩ := Rep_lit.1 p5_13.rep
      subst hz5_13
      obtain ⟨g5_14, r5_14, e5_14, p5_14, ov5_14, d5_14⟩ := OwnV.uncons ov5_13
      have iw5 := iv5.mono (lo' := w4.heap.size + 1) (by first | omega | (simp; done) | (simp; omega)) (Nat.le_refl _)
      have hnil5 := ov5_14.rep
      change r5_14 = [] at hnil5
      subst hnil5
      subst e5_14
      subst e5_13
      subst e5_12
      subst e5_11
      subst e5_10
      subst e5_9
      subst e5_8
      subst e5_7
      subst e5_6
      subst e5_5
      subst e5_4
      subst e5_3
      subst e5_2
      subst e5_1
      subst e5_0
      have iudb3 : In _ _ g5_3 := fun y hy => iw5 y (by simp [hy])
      have oudb3_5 := Lib.hid p5_3
      have iudb4 : In _ _ g5_4 := fun y hy => iw5 y (by simp [hy])
      have oudb4_5 := Lib.hid p5_4
      have iudb5 : In _ _ g5_5 := fun y hy => iw5 y (by simp [hy])
      have oudb5_5 := Lib.hid p5_5
      have iudb6 : In _ _ g5_6 := fun y hy => iw5 y (by simp [hy])
      have oudb6_5 := Lib.hid p5_6
      have iudb7 : In _ _ g5_7 := fun y hy => iw5 y (by simp [hy])
      have oudb7_5 := Lib.hid p5_7
      have iudb8 : In _ _ g5_8 := fun y hy => iw5 y (by simp [hy])
      have oudb8_5 := Lib.hid p5_8
      have iudb9 : In _ _ g5_9 := fun y hy => iw5 y (by simp [hy])
      have oudb9_5 := Lib.hid p5_9
      have iudb10 : In _ _ g5_10 := fun y hy => iw5 y (by simp [hy])
      have oudb10_5 := Lib.hid p5_10
      have iudb11 : In _ _ g5_11 := fun y hy => iw5 y (by simp [hy])
      have oudb11_5 := Lib.hid p5_11
      have iudb12 : In _ _ g5_12 := fun y hy => iw5 y (by simp [hy])
      have oudb12_5 := Lib.hid p5_12
      have iudb14 : In _ _ g5_14 := fun y hy => iw5 y (by simp [hy])
      have oudb14_5 := Lib.hid p5_14
      have djudb3_4 : ∀ y ∈ g5_3, y ∉ g5_4 := fun y hy e => d5_3 y hy (by simp [e])
      have djudb3_5 : ∀ y ∈ g5_3, y ∉ g5_5 := fun y hy e => d5_3 y hy (by simp [e])
      have djudb3_6 : ∀ y ∈ g5_3, y ∉ g5_6 := fun y hy e => d5_3 y hy (by simp [e])
      have djudb3_7 : ∀ y ∈ g5_3, y ∉ g5_7 := fun y hy e => d5_3 y hy (by simp [e])
      have djudb3_8 : ∀ y ∈ g5_3, y ∉ g5_8 := fun y hy e => d5_3 y hy (by simp [e])
      have djudb3_9 : ∀ y ∈ g5_3, y ∉ g5_9 := fun y hy e => d5_3 y hy (by simp [e])
      have djudb3_10 : ∀ y ∈ g5_3, y ∉ g5_10 := fun y hy e => d5_3 y hy (by simp [e])
      have djudb3_11 : ∀ y ∈ g5_3, y ∉ g5_11 := fun y hy e => d5_3 y hy (by simp [e])
      have djudb3_12 : ∀ y ∈ g5_3, y ∉ g5_12 := fun y hy e => d5_3 y hy (by simp [e])
      have djudb3_14 : ∀ y ∈ g5_3, y ∉ g5_14 := fun y hy e => d5_3 y hy (by simp [e])
      have djudb4_5 : ∀ y ∈ g5_4, y ∉ g5_5 := fun y hy e => d5_4 y hy (by simp [e])
      have djudb4_6 : ∀ y ∈ g5_4, y ∉ g5_6 := fun y hy e => d5_4 y hy (by simp [e])
      have djudb4_7 : ∀ y ∈ g5_4, y ∉ g5_7 := fun y hy e => d5_4 y hy (by simp [e])
      have djudb4_8 : ∀ y ∈ g5_4, y ∉ g5_8 := fun y hy e => d5_4 y hy (by simp [e])
      have djudb4_9 : ∀ y ∈ g5_4, y ∉ g5_9 := fun y hy e => d5_4 y hy (by simp [e])
      have djudb4_10 : ∀ y ∈ g5_4, y ∉ g5_10 := fun y hy e => d5_4 y hy (by simp [e])
      have djudb4_11 : ∀ y ∈ g5_4, y ∉ g5_11 := fun y hy e => d5_4 y hy (by simp [e])
      have djudb4_12 : ∀ y ∈ g5_4, y ∉ g5_12 := fun y hy e => d5_4 y hy (by simp [e])
      have djudb4_14 : ∀ y ∈ g5_4, y ∉ g5_14 := fun y hy e => d5_4 y hy (by simp [e])
      have djudb5_6 : ∀ y ∈ g5_5, y ∉ g5_6 := fun y hy e => d5_5 y hy (by simp [e])
      have djudb5_7 : ∀ y ∈ g5_5, y ∉ g5_7 := fun y hy e => d5_5 y hy (by simp [e])
      have djudb5_8 : ∀ y ∈ g5_5, y ∉ g5_8 := fun y hy e => d5_5 y hy (by simp [e])
      have djudb5_9 : ∀ y ∈ g5_5, y ∉ g5_9 := fun y hy e => d5_5 y hy (by simp [e])
      have djudb5_10 : ∀ y ∈ g5_5, y ∉ g5_10 := fun y hy e => d5_5 y hy (by simp [e])
      have djudb5_11 : ∀ y ∈ g5_5, y ∉ g5_11 := fun y hy e => d5_5 y hy (by simp [e])
      have djudb5_12 : ∀ y ∈ g5_5, y ∉ g5_12 := fun y hy e => d5_5 y hy (by simp [e])
      have djudb5_14 : ∀ y ∈ g5_5, y ∉ g5_14 := fun y hy e => d5_5 y hy (by simp [e])
      have djudb6_7 : ∀ y ∈ g5_6, y ∉ g5_7 := fun y hy e => d5_6 y hy (by simp [e])
      have djudb6_8 : ∀ y ∈ g5_6, y ∉ g5_8 := fun y hy e => d5_6 y hy (by simp [e])
      have djudb6_9 : ∀ y ∈ g5_6, y ∉ g5_9 := fun y hy e => d5_6 y hy (by simp [e])
      have djudb6_10 : ∀ y ∈ g5_6, y ∉ g5_10 := fun y hy e => d5_6 y hy (by simp [e])
      have djudb6_11 : ∀ y ∈ g5_6, y ∉ g5_11 := fun y hy e => d5_6 y hy (by simp [e])
      have djudb6_12 : ∀ y ∈ g5_6, y ∉ g5_12 := fun y hy e => d5_6 y hy (by simp [e])
      have djudb6_14 : ∀ y ∈ g5_6, y ∉ g5_14 := fun y hy e => d5_6 y hy (by simp [e])
      have djudb7_8 : ∀ y ∈ g5_7, y ∉ g5_8 := fun y hy e => d5_7 y hy (by simp [e])
      have djudb7_9 : ∀ y ∈ g5_7, y ∉ g5_9 := fun y hy e => d5_7 y hy (by simp [e])
      have djudb7_10 : ∀ y ∈ g5_7, y ∉ g5_10 := fun y hy e => d5_7 y hy (by simp [e])
      have djudb7_11 : ∀ y ∈ g5_7, y ∉ g5_11 := fun y hy e => d5_7 y hy (by simp [e])
      have djudb7_12 : ∀ y ∈ g5_7, y ∉ g5_12 := fun y hy e => d5_7 y hy (by simp [e])
      have djudb7_14 : ∀ y ∈ g5_7, y ∉ g5_14 := fun y hy e => d5_7 y hy (by simp [e])
      have djudb8_9 : ∀ y ∈ g5_8, y ∉ g5_9 := fun y hy e => d5_8 y hy (by simp [e])
      have djudb8_10 : ∀ y ∈ g5_8, y ∉ g5_10 := fun y hy e => d5_8 y hy (by simp [e])
      have djudb8_11 : ∀ y ∈ g5_8, y ∉ g5_11 := fun y hy e => d5_8 y hy (by simp [e])
      have djudb8_12 : ∀ y ∈ g5_8, y ∉ g5_12 := fun y hy e => d5_8 y hy (by simp [e])
      have djudb8_14 : ∀ y ∈ g5_8, y ∉ g5_14 := fun y hy e => d5_8 y hy (by simp [e])
      have djudb9_10 : ∀ y ∈ g5_9, y ∉ g5_10 := fun y hy e => d5_9 y hy (by simp [e])
      have djudb9_11 : ∀ y ∈ g5_9, y ∉ g5_11 := fun y hy e => d5_9 y hy (by simp [e])
      have djudb9_12 : ∀ y ∈ g5_9, y ∉ g5_12 := fun y hy e => d5_9 y hy (by simp [e])
      have djudb9_14 : ∀ y ∈ g5_9, y ∉ g5_14 := fun y hy e => d5_9 y hy (by simp [e])
      have djudb10_11 : ∀ y ∈ g5_10, y ∉ g5_11 := fun y hy e => d5_10 y hy (by simp [e])
      have djudb10_12 : ∀ y ∈ g5_10, y ∉ g5_12 := fun y hy e => d5_10 y hy (by simp [e])
      have djudb10_14 : ∀ y ∈ g5_10, y ∉ g5_14 := fun y hy e => d5_10 y hy (by simp [e])
      have djudb11_12 : ∀ y ∈ g5_11, y ∉ g5_12 := fun y hy e => d5_11 y hy (by simp [e])
      have djudb11_14 : ∀ y ∈ g5_11, y ∉ g5_14 := fun y hy e => d5_11 y hy (by simp [e])
      have djudb12_14 : ∀ y ∈ g5_12, y ∉ g5_14 := fun y hy e => d5_12 y hy (by simp [e])
      clear p5_0 ov5_0 d5_0 p5_1 ov5_1 d5_1 p5_2 ov5_2 d5_2 p5_3 ov5_3 d5_3 p5_4 ov5_4 d5_4 p5_5 ov5_5 d5_5 p5_6 ov5_6 d5_6 p5_7 ov5_7 d5_7 p5_8 ov5_8 d5_8 p5_9 ov5_9 d5_9 p5_10 ov5_10 d5_10 p5_11 ov5_11 d5_11 p5_12 ov5_12 d5_12 p5_13 ov5_13 d5_13 p5_14 ov5_14 d5_14 ov5 iv5 iw5
      as_aux_lemma =>
       go_wp2_with fail
       refine (HI.out _ _ _ _ _ _ _ _ _ _ _ _ _ _ _ _ _ _ _ _ _ _ _ (((ouda3_5.out.below iuda3 (by omega) ((Below.refl _ _).alloc (Nat.le_refl _) _)).rd iuda3).mono (by first | omega | (simp; done) | (simp; omega))) (((ouda4_5.out.below iuda4 (by omega) ((Below.refl _ _).alloc (Nat.le_refl _) _)).rd iuda4).mono (by first | omega | (simp; done) | (simp; omega))) (((ouda5_5.out.below iuda5 (by omega) ((Below.refl _ _).alloc (Nat.le_refl _) _)).rd iuda5).mono (by first | omega | (simp; done) | (simp; omega))) (((ouda6_5.out.below iuda6 (by omega) ((Below.refl _ _).alloc (Nat.le_refl _) _)).rd iuda6).mono (by first | omega | (simp; done) | (simp; omega))) (((ouda7_5.out.below iuda7 (by omega) ((Below.refl _ _).alloc (Nat.le_refl _) _)).rd iuda7).mono (by first | omega | (simp; done) | (simp; omega))) (((ouda8_5.out.below iuda8 (by omega) ((Below.refl _ _).alloc (Nat.le_refl _) _)).rd iuda8).mono (by first | omega | (simp; done) | (simp; omega))) (((ouda9_5.out.below iuda9 (by omega) ((Below.refl _ _).alloc (Nat.le_refl _) _)).rd iuda9).mono (by first | omega | (simp; done) | (simp; omega))) (((ouda10_5.out.below iuda10 (by omega) ((Below.refl _ _).alloc (Nat.le_refl _) _)).rd iuda10).mono (by first | omega | (simp; done) | (simp; omega))) (((ouda11_5.out.below iuda11 (by omega) ((Below.refl _ _).alloc (Nat.le_refl _) _)).rd iuda11).mono (by first | omega | (simp; done) | (simp; omega))) (((ouda12_5.out.below iuda12 (by omega) ((Below.refl _ _).alloc (Nat.le_refl _) _)).rd iuda12).mono (by first | omega | (simp; done) | (simp; omega))) (((ouda14_5.out.below iuda14 (by omega) ((Below.refl _ _).alloc (Nat.le_refl _) _)).rd iuda14).mono (by first | omega | (simp; done) | (simp; omega))) (((oudb3_5.out.below iudb3 (by omega) ((Below.refl _ _).alloc (Nat.le_refl _) _)).rd iudb3).mono (by first | omega | (simp; done) | (simp; omega))) (((oudb4_5.out.below iudb4 (by omega) ((Below.refl _ _).alloc (Nat.le_refl _) _)).rd iudb4).mono (by first | omega | (simp; done) | (simp; omega))) (((oudb5_5.out.below iudb5 (by omega) ((Below.refl _ _).alloc (Nat.le_refl _) _)).rd iudb5).mono (by first | omega | (simp; done) | (simp; omega))) (((oudb6_5.out.below iudb6 (by omega) ((Below.refl _ _).alloc (Nat.le_refl _) _)).rd iudb6).mono (by first | omega | (simp; done) | (simp; omega))) (((oudb7_5.out.below iudb7 (by omega) ((Below.refl _ _).alloc (Nat.le_refl _) _)).rd iudb7).mono (by first | omega | (simp; done) | (simp; omega))) (((oudb8_5.out.below iudb8 (by omega) ((Below.refl _ _).alloc (Nat.le_refl _) _)).rd iudb8).mono (by first | omega | (simp; done) | (simp; omega))) (((oudb9_5.out.below iudb9 (by omega) ((Below.refl _ _).alloc (Nat.le_refl _) _)).rd iudb9).mono (by first | omega | (simp; done) | (simp; omega))) (((oudb10_5.out.below iudb10 (by omega) ((Below.refl _ _).alloc (Nat.le_refl _) _)).rd iudb10).mono (by first | omega | (simp; done) | (simp; omega))) (((oudb11_5.out.below iudb11 (by omega) ((Below.refl _ _).alloc (Nat.le_refl _) _)).rd iudb11).mono (by first | omega | (simp; done) | (simp; omega))) (((oudb12_5.out.below iudb12 (by omega) ((Below.refl _ _).alloc (Nat.le_refl _) _)).rd iudb12).mono (by first | omega | (simp; done) | (simp; omega))) (((oudb14_5.out.below iudb14 (by omega) ((Below.refl _ _).alloc (Nat.le_refl _) _)).rd iudb14).mono (by first | omega | (simp; done) | (simp; omega))) (by omega) (by omega)).mono ?_
       rintro e w6 ⟨rfl, hb6⟩
       have hx6 : Below w5.heap.size w5 (w5.alloc (.cells #[.int .i64 db.plan.terrain.step, .int .i64 db.plan.terrain.width, .int .i64 db.plan.terrain.height, .slice audb3 db.plan.terrain.heights.length cudb3, .slice audb4 db.plan.terrain.clutter.length cudb4, .slice audb5 db.plan.network.sites.length cudb5, .slice audb6 db.plan.network.sectors.length cudb6, .slice audb7 db.plan.network.antennas.length cudb7, .slice audb8 db.plan.network.radios.length cudb8, .slice audb9 db.plan.bands.length cudb9, .slice audb10 db.plan.licences.length cudb10, .slice audb11 db.plan.protected_.length cudb11, .slice audb12 db.plan.apart.length cudb12, .int .i64 db.plan.day, .slice audb14 db.requests.length cudb14] 56)) := ((Below.refl _ _).alloc (Nat.le_refl _) _)
       have hbb6 : Below w5.heap.size w5 w6 := hx6.trans (hb6.mono (by first | (simp; done) | (simp; omega)))
       have z6 := hbb6.size
       obtain ⟨qAda6, _, yAda6⟩ := bcellAt hb6 (b := w.heap.size) (by first | omega | (simp; done) | (simp; omega))
       obtain ⟨qAdb6, _, yAdb6⟩ := bcellAt hb6 (b := w.heap.size + 1) (by first | omega | (simp; done) | (simp; omega))
       obtain ⟨qUda6, _, yUda6⟩ := bcellAt hb6 (b := w4.heap.size) (by first | omega | (simp; done) | (simp; omega))
       obtain ⟨qUdb6, _, yUdb6⟩ := bcellAt hb6 (b := w5.heap.size) (by first | omega | (simp; done) | (simp; omega))
       have BB6 := Lib.hid (BB5.out.trans (hbb6.mono (by omega)))
       have ouda3_6 := Lib.hid (ouda3_5.out.below iuda3 (by omega) hbb6)
       have ouda4_6 := Lib.hid (ouda4_5.out.below iuda4 (by omega) hbb6)
       have ouda5_6 := Lib.hid (ouda5_5.out.below iuda5 (by omega) hbb6)
       have ouda6_6 := Lib.hid (ouda6_5.out.below iuda6 (by omega) hbb6)
       have ouda7_6 := Lib.hid (ouda7_5.out.below iuda7 (by omega) hbb6)
       have ouda8_6 := Lib.hid (ouda8_5.out.below iuda8 (by omega) hbb6)
       have ouda9_6 := Lib.hid (ouda9_5.out.below iuda9 (by omega) hbb6)
       have ouda10_6 := Lib.hid (ouda10_5.out.below iuda10 (by omega) hbb6)
       have ouda11_6 := Lib.hid (ouda11_5.out.below iuda11 (by omega) hbb6)
       have ouda12_6 := Lib.hid (ouda12_5.out.below iuda12 (by omega) hbb6)
       have ouda14_6 := Lib.hid (ouda14_5.out.below iuda14 (by omega) hbb6)
       have oudb3_6 := Lib.hid (oudb3_5.out.below iudb3 (by omega) hbb6)
       have oudb4_6 := Lib.hid (oudb4_5.out.below iudb4 (by omega) hbb6)
       have oudb5_6 := Lib.hid (oudb5_5.out.below iudb5 (by omega) hbb6)
       have oudb6_6 := Lib.hid (oudb6_5.out.below iudb6 (by omega) hbb6)
       have oudb7_6 := Lib.hid (oudb7_5.out.below iudb7 (by omega) hbb6)
       have oudb8_6 := Lib.hid (oudb8_5.out.below iudb8 (by omega) hbb6)
       have oudb9_6 := Lib.hid (oudb9_5.out.below iudb9 (by omega) hbb6)
       have oudb10_6 := Lib.hid (oudb10_5.out.below iudb10 (by omega) hbb6)
       have oudb11_6 := Lib.hid (oudb11_5.out.below iudb11 (by omega) hbb6)
       have oudb12_6 := Lib.hid (oudb12_5.out.below iudb12 (by omega) hbb6)
       have oudb14_6 := Lib.hid (oudb14_5.out.below iudb14 (by omega) hbb6)
       clear hx6
       clear hb6 hbb6
       clear cy1 cy2
       have hcf : w6.cell? ⟨w4.heap.size, 0, none⟩ = some (.int .i64 da.plan.terrain.step) ∧ w6.cell? ⟨w4.heap.size, 1, none⟩ = some (.int .i64 da.plan.terrain.width) ∧ w6.cell? ⟨w4.heap.size, 2, none⟩ = some (.int .i64 da.plan.terrain.height) ∧ w6.cell? ⟨w4.heap.size, 3, none⟩ = some (.slice auda3 da.plan.terrain.heights.length cuda3) ∧ w6.cell? ⟨w4.heap.size, 4, none⟩ = some (.slice auda4 da.plan.terrain.clutter.length cuda4) ∧ w6.cell? ⟨w4.heap.size, 5, none⟩ = some (.slice auda5 da.plan.network.sites.length cuda5) ∧ w6.cell? ⟨w4.heap.size, 6, none⟩ = some (.slice auda6 da.plan.network.sectors.length cuda6) ∧ w6.cell? ⟨w4.heap.size, 7, none⟩ = some (.slice auda7 da.plan.network.antennas.length cuda7) ∧ w6.cell? ⟨w4.heap.size, 8, none⟩ = some (.slice auda8 da.plan.network.radios.length cuda8) ∧ w6.cell? ⟨w4.heap.size, 9, none⟩ = some (.slice auda9 da.plan.bands.length cuda9) ∧ w6.cell? ⟨w4.heap.size, 10, none⟩ = some (.slice auda10 da.plan.licences.length cuda10) ∧ w6.cell? ⟨w4.heap.size, 11, none⟩ = some (.slice auda11 da.plan.protected_.length cuda11) ∧ w6.cell? ⟨w4.heap.size, 12, none⟩ = some (.slice auda12 da.plan.apart.length cuda12) ∧ w6.cell? ⟨w4.heap.size, 13, none⟩ = some (.int .i64 da.plan.day) ∧ w6.cell? ⟨w4.heap.size, 14, none⟩ = some (.slice auda14 da.requests.length cuda14) ∧ w6.cell? ⟨w.heap.size, 0, none⟩ = some (.int .i64 da.plan.terrain.step) ∧ w6.cell? ⟨w.heap.size, 1, none⟩ = some (.int .i64 da.plan.terrain.width) ∧ w6.cell? ⟨w.heap.size, 2, none⟩ = some (.int .i64 da.plan.terrain.height) ∧ w6.cell? ⟨w.heap.size, 3, none⟩ = some (vda3) ∧ w6.cell? ⟨w.heap.size, 4, none⟩ = some (vda4) ∧ w6.cell? ⟨w.heap.size, 5, none⟩ = some (vda5) ∧ w6.cell? ⟨w.heap.size, 6, none⟩ = some (vda6) ∧ w6.cell? ⟨w.heap.size, 7, none⟩ = some (vda7) ∧ w6.cell? ⟨w.heap.size, 8, none⟩ = some (vda8) ∧ w6.cell? ⟨w.heap.size, 9, none⟩ = some (vda9) ∧ w6.cell? ⟨w.heap.size, 10, none⟩ = some (vda10) ∧ w6.cell? ⟨w.heap.size, 11, none⟩ = some (vda11) ∧ w6.cell? ⟨w.heap.size, 12, none⟩ = some (vda12) ∧ w6.cell? ⟨w.heap.size, 13, none⟩ = some (.int .i64 da.plan.day) ∧ w6.cell? ⟨w.heap.size, 14, none⟩ = some (vda14) := by refine ⟨?_, ?_, ?_, ?_, ?_, ?_, ?_, ?_, ?_, ?_, ?_, ?_, ?_, ?_, ?_, ?_, ?_, ?_, ?_, ?_, ?_, ?_, ?_, ?_, ?_, ?_, ?_, ?_, ?_, ?_⟩ <;> simp [go_sem, *]
       as_aux_lemma =>
        go_wp2
        have hsame : Below w6.heap.size w6 w6.drew := ⟨rfl, rfl, rfl, Nat.le_refl _, fun _ _ => rfl⟩
        have BBd := Lib.hid BB6.out.drew
        have HTO := Lib.hid (to_Desk da vda3 vda4 vda5 vda6 vda7 vda8 vda9 vda10 vda11 vda12 vda14 w6.drew ((Hda3.out.below BBd.out).mono (by show w.heap.size ≤ w6.heap.size; omega)) ((Hda4.out.below BBd.out).mono (by show w.heap.size ≤ w6.heap.size; omega)) ((Hda5.out.below BBd.out).mono (by show w.heap.size ≤ w6.heap.size; omega)) ((Hda6.out.below BBd.out).mono (by show w.heap.size ≤ w6.heap.size; omega)) ((Hda7.out.below BBd.out).mono (by show w.heap.size ≤ w6.heap.size; omega)) ((Hda8.out.below BBd.out).mono (by show w.heap.size ≤ w6.heap.size; omega)) ((Hda9.out.below BBd.out).mono (by show w.heap.size ≤ w6.heap.size; omega)) ((Hda10.out.below BBd.out).mono (by show w.heap.size ≤ w6.heap.size; omega)) ((Hda11.out.below BBd.out).mono (by show w.heap.size ≤ w6.heap.size; omega)) ((Hda12.out.below BBd.out).mono (by show w.heap.size ≤ w6.heap.size; omega)) ((Hda14.out.below BBd.out).mono (by show w.heap.size ≤ w6.heap.size; omega)) (by omega))
        have HEQ : Hid (∀ (W : World) (p3 p4 p5 p6 p7 p8 p9 p10 p11 p12 p14 q3 q4 q5 q6 q7 q8 q9 q10 q11 q12 q14 : Value), Below w6.heap.size w6 W → RdV W.heap.size W da.tr [.int .i64 da.plan.terrain.step, .int .i64 da.plan.terrain.width, .int .i64 da.plan.terrain.height, q3, q4, q5, q6, q7, q8, q9, q10, q11, q12, .int .i64 da.plan.day, q14] → p3 = .slice auda3 da.plan.terrain.heights.length cuda3 → p4 = .slice auda4 da.plan.terrain.clutter.length cuda4 → p5 = .slice auda5 da.plan.network.sites.length cuda5 → p6 = .slice auda6 da.plan.network.sectors.length cuda6 → p7 = .slice auda7 da.plan.network.antennas.length cuda7 → p8 = .slice auda8 da.plan.network.radios.length cuda8 → p9 = .slice auda9 da.plan.bands.length cuda9 → p10 = .slice auda10 da.plan.licences.length cuda10 → p11 = .slice auda11 da.plan.protected_.length cuda11 → p12 = .slice auda12 da.plan.apart.length cuda12 → p14 = .slice auda14 da.requests.length cuda14 → Calls Tryz.prog 10 #[.agg #[.int .i64 da.plan.terrain.step, .int .i64 da.plan.terrain.width, .int .i64 da.plan.terrain.height, p3, p4, p5, p6, p7, p8, p9, p10, p11, p12, .int .i64 da.plan.day, p14], .agg #[.int .i64 da.plan.terrain.step, .int .i64 da.plan.terrain.width, .int .i64 da.plan.terrain.height, q3, q4, q5, q6, q7, q8, q9, q10, q11, q12, .int .i64 da.plan.day, q14]] W fun e w' => e = .returned (.bool true) ∧ Below W.heap.size W w') := fun W p3 p4 p5 p6 p7 p8 p9 p10 p11 p12 p14 q3 q4 q5 q6 q7 q8 q9 q10 q11 q12 q14 hW hr e3 e4 e5 e6 e7 e8 e9 e10 e11 e12 e14 => by
          subst e3 e4 e5 e6 e7 e8 e9 e10 e11 e12 e14
          have hzW := hW.size
          exact eq_Desk da _ _ _ _ _ _ _ _ _ _ _ _ _ _ _ _ _ _ _ _ _ _ W.heap.size W (((ouda3_6.out.below iuda3 (by omega) hW).rd iuda3).mono (by omega)) hr.2.2.2.1 (((ouda4_6.out.below iuda4 (by omega) hW).rd iuda4).mono (by omega)) hr.2.2.2.2.1 (((ouda5_6.out.below iuda5 (by omega) hW).rd iuda5).mono (by omega)) hr.2.2.2.2.2.1 (((ouda6_6.out.below iuda6 (by omega) hW).rd iuda6).mono (by omega)) hr.2.2.2.2.2.2.1 (((ouda7_6.out.below iuda7 (by omega) hW).rd iuda7).mono (by omega)) hr.2.2.2.2.2.2.2.1 (((ouda8_6.out.below iuda8 (by omega) hW).rd iuda8).mono (by omega)) hr.2.2.2.2.2.2.2.2.1 (((ouda9_6.out.below iuda9 (by omega) hW).rd iuda9).mono (by omega)) hr.2.2.2.2.2.2.2.2.2.1 (((ouda10_6.out.below iuda10 (by omega) hW).rd iuda10).mono (by omega)) hr.2.2.2.2.2.2.2.2.2.2.1 (((ouda11_6.out.below iuda11 (by omega) hW).rd iuda11).mono (by omega)) hr.2.2.2.2.2.2.2.2.2.2.2.1 (((ouda12_6.out.below iuda12 (by omega) hW).rd iuda12).mono (by omega)) hr.2.2.2.2.2.2.2.2.2.2.2.2.1 (((ouda14_6.out.below iuda14 (by omega) hW).rd iuda14).mono (by omega)) hr.2.2.2.2.2.2.2.2.2.2.2.2.2.2.1 (Nat.le_refl _) (by omega)
        go_region_held3 (fun W => W.cell? ⟨w4.heap.size, 0, none⟩ = some (.int .i64 da.plan.terrain.step) ∧ W.cell? ⟨w4.heap.size, 1, none⟩ = some (.int .i64 da.plan.terrain.width) ∧ W.cell? ⟨w4.heap.size, 2, none⟩ = some (.int .i64 da.plan.terrain.height) ∧ W.cell? ⟨w4.heap.size, 3, none⟩ = some (.slice auda3 da.plan.terrain.heights.length cuda3) ∧ W.cell? ⟨w4.heap.size, 4, none⟩ = some (.slice auda4 da.plan.terrain.clutter.length cuda4) ∧ W.cell? ⟨w4.heap.size, 5, none⟩ = some (.slice auda5 da.plan.network.sites.length cuda5) ∧ W.cell? ⟨w4.heap.size, 6, none⟩ = some (.slice auda6 da.plan.network.sectors.length cuda6) ∧ W.cell? ⟨w4.heap.size, 7, none⟩ = some (.slice auda7 da.plan.network.antennas.length cuda7) ∧ W.cell? ⟨w4.heap.size, 8, none⟩ = some (.slice auda8 da.plan.network.radios.length cuda8) ∧ W.cell? ⟨w4.heap.size, 9, none⟩ = some (.slice auda9 da.plan.bands.length cuda9) ∧ W.cell? ⟨w4.heap.size, 10, none⟩ = some (.slice auda10 da.plan.licences.length cuda10) ∧ W.cell? ⟨w4.heap.size, 11, none⟩ = some (.slice auda11 da.plan.protected_.length cuda11) ∧ W.cell? ⟨w4.heap.size, 12, none⟩ = some (.slice auda12 da.plan.apart.length cuda12) ∧ W.cell? ⟨w4.heap.size, 13, none⟩ = some (.int .i64 da.plan.day) ∧ W.cell? ⟨w4.heap.size, 14, none⟩ = some (.slice auda14 da.requests.length cuda14) ∧ W.cell? ⟨w.heap.size, 0, none⟩ = some (.int .i64 da.plan.terrain.step) ∧ W.cell? ⟨w.heap.size, 1, none⟩ = some (.int .i64 da.plan.terrain.width) ∧ W.cell? ⟨w.heap.size, 2, none⟩ = some (.int .i64 da.plan.terrain.height) ∧ W.cell? ⟨w.heap.size, 3, none⟩ = some (vda3) ∧ W.cell? ⟨w.heap.size, 4, none⟩ = some (vda4) ∧ W.cell? ⟨w.heap.size, 5, none⟩ = some (vda5) ∧ W.cell? ⟨w.heap.size, 6, none⟩ = some (vda6) ∧ W.cell? ⟨w.heap.size, 7, none⟩ = some (vda7) ∧ W.cell? ⟨w.heap.size, 8, none⟩ = some (vda8) ∧ W.cell? ⟨w.heap.size, 9, none⟩ = some (vda9) ∧ W.cell? ⟨w.heap.size, 10, none⟩ = some (vda10) ∧ W.cell? ⟨w.heap.size, 11, none⟩ = some (vda11) ∧ W.cell? ⟨w.heap.size, 12, none⟩ = some (vda12) ∧ W.cell? ⟨w.heap.size, 13, none⟩ = some (.int .i64 da.plan.day) ∧ W.cell? ⟨w.heap.size, 14, none⟩ = some (vda14)) (first | exact hcf | (refine ⟨?_, ?_, ?_, ?_, ?_, ?_, ?_, ?_, ?_, ?_, ?_, ?_, ?_, ?_, ?_, ?_, ?_, ?_, ?_, ?_, ?_, ?_, ?_, ?_, ?_, ?_, ?_, ?_, ?_, ?_⟩ <;> simp [go_sem, *]))
          (first
            | (go_at_call 8; refine (HTO.out).mono ?_; rintro e wt ⟨at3, ct3, at4, ct4, at5, ct5, at6, ct6, at7, ct7, at8, ct8, at9, ct9, at10, ct10, at11, ct11, at12, ct12, at14, ct14, ft, rfl, hbt, ovt, ivt⟩; obtain ⟨qUt, _, yUt⟩ := bcellAt hbt (b := w4.heap.size) (by show w4.heap.size < w6.heap.size; omega); obtain ⟨qAt, _, yAt⟩ := bcellAt hbt (b := w.heap.size) (by show w.heap.size < w6.heap.size; omega))
            | (go_at_call 10; refine (HEQ.out _ _ _ _ _ _ _ _ _ _ _ _ _ _ _ _ _ _ _ _ _ _ _ (hsame.trans hbt) (ovt.rd ivt) rfl rfl rfl rfl rfl rfl rfl rfl rfl rfl rfl).mono ?_; rintro e w7 ⟨rfl, hbe⟩; obtain ⟨qUe, _, yUe⟩ := bcellAt hbe (b := w4.heap.size) yUt; obtain ⟨qAe, _, yAe⟩ := bcellAt hbe (b := w.heap.size) yAt))
        have hb7 : Below w6.heap.size w6 w7 := (hsame.trans hbt).trans (hbe.mono (hsame.trans hbt).size)
        clear HEQ HTO BBd hcf qUt qAt qUe qAe yUt yAt yUe yAe hbe hbt ovt ivt hsame
        have hbb7 : Below w6.heap.size w6 w7 := hb7
        have z7 := hbb7.size
        obtain ⟨qAda7, _, yAda7⟩ := bcellAt hb7 (b := w.heap.size) (by first | omega | (simp; done) | (simp; omega))
        obtain ⟨qAdb7, _, yAdb7⟩ := bcellAt hb7 (b := w.heap.size + 1) (by first | omega | (simp; done) | (simp; omega))
        obtain ⟨qUda7, _, yUda7⟩ := bcellAt hb7 (b := w4.heap.size) (by first | omega | (simp; done) | (simp; omega))
        obtain ⟨qUdb7, _, yUdb7⟩ := bcellAt hb7 (b := w5.heap.size) (by first | omega | (simp; done) | (simp; omega))
        have BB7 := Lib.hid (BB6.out.trans (hbb7.mono (by omega)))
        have ouda3_7 := Lib.hid (ouda3_6.out.below iuda3 (by omega) hbb7)
        have ouda4_7 := Lib.hid (ouda4_6.out.below iuda4 (by omega) hbb7)
        have ouda5_7 := Lib.hid (ouda5_6.out.below iuda5 (by omega) hbb7)
        have ouda6_7 := Lib.hid (ouda6_6.out.below iuda6 (by omega) hbb7)
        have ouda7_7 := Lib.hid (ouda7_6.out.below iuda7 (by omega) hbb7)
        have ouda8_7 := Lib.hid (ouda8_6.out.below iuda8 (by omega) hbb7)
        have ouda9_7 := Lib.hid (ouda9_6.out.below iuda9 (by omega) hbb7)
        have ouda10_7 := Lib.hid (ouda10_6.out.below iuda10 (by omega) hbb7)
        have ouda11_7 := Lib.hid (ouda11_6.out.below iuda11 (by omega) hbb7)
        have ouda12_7 := Lib.hid (ouda12_6.out.below iuda12 (by omega) hbb7)
        have ouda14_7 := Lib.hid (ouda14_6.out.below iuda14 (by omega) hbb7)
        have oudb3_7 := Lib.hid (oudb3_6.out.below iudb3 (by omega) hbb7)
        have oudb4_7 := Lib.hid (oudb4_6.out.below iudb4 (by omega) hbb7)
        have oudb5_7 := Lib.hid (oudb5_6.out.below iudb5 (by omega) hbb7)
        have oudb6_7 := Lib.hid (oudb6_6.out.below iudb6 (by omega) hbb7)
        have oudb7_7 := Lib.hid (oudb7_6.out.below iudb7 (by omega) hbb7)
        have oudb8_7 := Lib.hid (oudb8_6.out.below iudb8 (by omega) hbb7)
        have oudb9_7 := Lib.hid (oudb9_6.out.below iudb9 (by omega) hbb7)
        have oudb10_7 := Lib.hid (oudb10_6.out.below iudb10 (by omega) hbb7)
        have oudb11_7 := Lib.hid (oudb11_6.out.below iudb11 (by omega) hbb7)
        have oudb12_7 := Lib.hid (oudb12_6.out.below iudb12 (by omega) hbb7)
        have oudb14_7 := Lib.hid (oudb14_6.out.below iudb14 (by omega) hbb7)
        clear hbb7
        have hcf : w7.cell? ⟨w5.heap.size, 0, none⟩ = some (.int .i64 db.plan.terrain.step) ∧ w7.cell? ⟨w5.heap.size, 1, none⟩ = some (.int .i64 db.plan.terrain.width) ∧ w7.cell? ⟨w5.heap.size, 2, none⟩ = some (.int .i64 db.plan.terrain.height) ∧ w7.cell? ⟨w5.heap.size, 3, none⟩ = some (.slice audb3 db.plan.terrain.heights.length cudb3) ∧ w7.cell? ⟨w5.heap.size, 4, none⟩ = some (.slice audb4 db.plan.terrain.clutter.length cudb4) ∧ w7.cell? ⟨w5.heap.size, 5, none⟩ = some (.slice audb5 db.plan.network.sites.length cudb5) ∧ w7.cell? ⟨w5.heap.size, 6, none⟩ = some (.slice audb6 db.plan.network.sectors.length cudb6) ∧ w7.cell? ⟨w5.heap.size, 7, none⟩ = some (.slice audb7 db.plan.network.antennas.length cudb7) ∧ w7.cell? ⟨w5.heap.size, 8, none⟩ = some (.slice audb8 db.plan.network.radios.length cudb8) ∧ w7.cell? ⟨w5.heap.size, 9, none⟩ = some (.slice audb9 db.plan.bands.length cudb9) ∧ w7.cell? ⟨w5.heap.size, 10, none⟩ = some (.slice audb10 db.plan.licences.length cudb10) ∧ w7.cell? ⟨w5.heap.size, 11, none⟩ = some (.slice audb11 db.plan.protected_.length cudb11) ∧ w7.cell? ⟨w5.heap.size, 12, none⟩ = some (.slice audb12 db.plan.apart.length cudb12) ∧ w7.cell? ⟨w5.heap.size, 13, none⟩ = some (.int .i64 db.plan.day) ∧ w7.cell? ⟨w5.heap.size, 14, none⟩ = some (.slice audb14 db.requests.length cudb14) ∧ w7.cell? ⟨w.heap.size + 1, 0, none⟩ = some (.int .i64 db.plan.terrain.step) ∧ w7.cell? ⟨w.heap.size + 1, 1, none⟩ = some (.int .i64 db.plan.terrain.width) ∧ w7.cell? ⟨w.heap.size + 1, 2, none⟩ = some (.int .i64 db.plan.terrain.height) ∧ w7.cell? ⟨w.heap.size + 1, 3, none⟩ = some (vdb3) ∧ w7.cell? ⟨w.heap.size + 1, 4, none⟩ = some (vdb4) ∧ w7.cell? ⟨w.heap.size + 1, 5, none⟩ = some (vdb5) ∧ w7.cell? ⟨w.heap.size + 1, 6, none⟩ = some (vdb6) ∧ w7.cell? ⟨w.heap.size + 1, 7, none⟩ = some (vdb7) ∧ w7.cell? ⟨w.heap.size + 1, 8, none⟩ = some (vdb8) ∧ w7.cell? ⟨w.heap.size + 1, 9, none⟩ = some (vdb9) ∧ w7.cell? ⟨w.heap.size + 1, 10, none⟩ = some (vdb10) ∧ w7.cell? ⟨w.heap.size + 1, 11, none⟩ = some (vdb11) ∧ w7.cell? ⟨w.heap.size + 1, 12, none⟩ = some (vdb12) ∧ w7.cell? ⟨w.heap.size + 1, 13, none⟩ = some (.int .i64 db.plan.day) ∧ w7.cell? ⟨w.heap.size + 1, 14, none⟩ = some (vdb14) := by refine ⟨?_, ?_, ?_, ?_, ?_, ?_, ?_, ?_, ?_, ?_, ?_, ?_, ?_, ?_, ?_, ?_, ?_, ?_, ?_, ?_, ?_, ?_, ?_, ?_, ?_, ?_, ?_, ?_, ?_, ?_⟩ <;> simp [go_sem, *]
        as_aux_lemma =>
         go_wp2
         have hsame : Below w7.heap.size w7 w7.drew := ⟨rfl, rfl, rfl, Nat.le_refl _, fun _ _ => rfl⟩
         have BBd := Lib.hid BB7.out.drew
         have HTO := Lib.hid (to_Desk db vdb3 vdb4 vdb5 vdb6 vdb7 vdb8 vdb9 vdb10 vdb11 vdb12 vdb14 w7.drew ((Hdb3.out.below BBd.out).mono (by show w.heap.size ≤ w7.heap.size; omega)) ((Hdb4.out.below BBd.out).mono (by show w.heap.size ≤ w7.heap.size; omega)) ((Hdb5.out.below BBd.out).mono (by show w.heap.size ≤ w7.heap.size; omega)) ((Hdb6.out.below BBd.out).mono (by show w.heap.size ≤ w7.heap.size; omega)) ((Hdb7.out.below BBd.out).mono (by show w.heap.size ≤ w7.heap.size; omega)) ((Hdb8.out.below BBd.out).mono (by show w.heap.size ≤ w7.heap.size; omega)) ((Hdb9.out.below BBd.out).mono (by show w.heap.size ≤ w7.heap.size; omega)) ((Hdb10.out.below BBd.out).mono (by show w.heap.size ≤ w7.heap.size; omega)) ((Hdb11.out.below BBd.out).mono (by show w.heap.size ≤ w7.heap.size; omega)) ((Hdb12.out.below BBd.out).mono (by show w.heap.size ≤ w7.heap.size; omega)) ((Hdb14.out.below BBd.out).mono (by show w.heap.size ≤ w7.heap.size; omega)) (by omega))
         have HEQ : Hid (∀ (W : World) (p3 p4 p5 p6 p7 p8 p9 p10 p11 p12 p14 q3 q4 q5 q6 q7 q8 q9 q10 q11 q12 q14 : Value), Below w7.heap.size w7 W → RdV W.heap.size W db.tr [.int .i64 db.plan.terrain.step, .int .i64 db.plan.terrain.width, .int .i64 db.plan.terrain.height, q3, q4, q5, q6, q7, q8, q9, q10, q11, q12, .int .i64 db.plan.day, q14] → p3 = .slice audb3 db.plan.terrain.heights.length cudb3 → p4 = .slice audb4 db.plan.terrain.clutter.length cudb4 → p5 = .slice audb5 db.plan.network.sites.length cudb5 → p6 = .slice audb6 db.plan.network.sectors.length cudb6 → p7 = .slice audb7 db.plan.network.antennas.length cudb7 → p8 = .slice audb8 db.plan.network.radios.length cudb8 → p9 = .slice audb9 db.plan.bands.length cudb9 → p10 = .slice audb10 db.plan.licences.length cudb10 → p11 = .slice audb11 db.plan.protected_.length cudb11 → p12 = .slice audb12 db.plan.apart.length cudb12 → p14 = .slice audb14 db.requests.length cudb14 → Calls Tryz.prog 10 #[.agg #[.int .i64 db.plan.terrain.step, .int .i64 db.plan.terrain.width, .int .i64 db.plan.terrain.height, p3, p4, p5, p6, p7, p8, p9, p10, p11, p12, .int .i64 db.plan.day, p14], .agg #[.int .i64 db.plan.terrain.step, .int .i64 db.plan.terrain.width, .int .i64 db.plan.terrain.height, q3, q4, q5, q6, q7, q8, q9, q10, q11, q12, .int .i64 db.plan.day, q14]] W fun e w' => e = .returned (.bool true) ∧ Below W.heap.size W w') := fun W p3 p4 p5 p6 p7 p8 p9 p10 p11 p12 p14 q3 q4 q5 q6 q7 q8 q9 q10 q11 q12 q14 hW hr e3 e4 e5 e6 e7 e8 e9 e10 e11 e12 e14 => by
           subst e3 e4 e5 e6 e7 e8 e9 e10 e11 e12 e14
           have hzW := hW.size
           exact eq_Desk db _ _ _ _ _ _ _ _ _ _ _ _ _ _ _ _ _ _ _ _ _ _ W.heap.size W (((oudb3_7.out.below iudb3 (by omega) hW).rd iudb3).mono (by omega)) hr.2.2.2.1 (((oudb4_7.out.below iudb4 (by omega) hW).rd iudb4).mono (by omega)) hr.2.2.2.2.1 (((oudb5_7.out.below iudb5 (by omega) hW).rd iudb5).mono (by omega)) hr.2.2.2.2.2.1 (((oudb6_7.out.below iudb6 (by omega) hW).rd iudb6).mono (by omega)) hr.2.2.2.2.2.2.1 (((oudb7_7.out.below iudb7 (by omega) hW).rd iudb7).mono (by omega)) hr.2.2.2.2.2.2.2.1 (((oudb8_7.out.below iudb8 (by omega) hW).rd iudb8).mono (by omega)) hr.2.2.2.2.2.2.2.2.1 (((oudb9_7.out.below iudb9 (by omega) hW).rd iudb9).mono (by omega)) hr.2.2.2.2.2.2.2.2.2.1 (((oudb10_7.out.below iudb10 (by omega) hW).rd iudb10).mono (by omega)) hr.2.2.2.2.2.2.2.2.2.2.1 (((oudb11_7.out.below iudb11 (by omega) hW).rd iudb11).mono (by omega)) hr.2.2.2.2.2.2.2.2.2.2.2.1 (((oudb12_7.out.below iudb12 (by omega) hW).rd iudb12).mono (by omega)) hr.2.2.2.2.2.2.2.2.2.2.2.2.1 (((oudb14_7.out.below iudb14 (by omega) hW).rd iudb14).mono (by omega)) hr.2.2.2.2.2.2.2.2.2.2.2.2.2.2.1 (Nat.le_refl _) (by omega)
         go_region_held3 (fun W => W.cell? ⟨w5.heap.size, 0, none⟩ = some (.int .i64 db.plan.terrain.step) ∧ W.cell? ⟨w5.heap.size, 1, none⟩ = some (.int .i64 db.plan.terrain.width) ∧ W.cell? ⟨w5.heap.size, 2, none⟩ = some (.int .i64 db.plan.terrain.height) ∧ W.cell? ⟨w5.heap.size, 3, none⟩ = some (.slice audb3 db.plan.terrain.heights.length cudb3) ∧ W.cell? ⟨w5.heap.size, 4, none⟩ = some (.slice audb4 db.plan.terrain.clutter.length cudb4) ∧ W.cell? ⟨w5.heap.size, 5, none⟩ = some (.slice audb5 db.plan.network.sites.length cudb5) ∧ W.cell? ⟨w5.heap.size, 6, none⟩ = some (.slice audb6 db.plan.network.sectors.length cudb6) ∧ W.cell? ⟨w5.heap.size, 7, none⟩ = some (.slice audb7 db.plan.network.antennas.length cudb7) ∧ W.cell? ⟨w5.heap.size, 8, none⟩ = some (.slice audb8 db.plan.network.radios.length cudb8) ∧ W.cell? ⟨w5.heap.size, 9, none⟩ = some (.slice audb9 db.plan.bands.length cudb9) ∧ W.cell? ⟨w5.heap.size, 10, none⟩ = some (.slice audb10 db.plan.licences.length cudb10) ∧ W.cell? ⟨w5.heap.size, 11, none⟩ = some (.slice audb11 db.plan.protected_.length cudb11) ∧ W.cell? ⟨w5.heap.size, 12, none⟩ = some (.slice audb12 db.plan.apart.length cudb12) ∧ W.cell? ⟨w5.heap.size, 13, none⟩ = some (.int .i64 db.plan.day) ∧ W.cell? ⟨w5.heap.size, 14, none⟩ = some (.slice audb14 db.requests.length cudb14) ∧ W.cell? ⟨w.heap.size + 1, 0, none⟩ = some (.int .i64 db.plan.terrain.step) ∧ W.cell? ⟨w.heap.size + 1, 1, none⟩ = some (.int .i64 db.plan.terrain.width) ∧ W.cell? ⟨w.heap.size + 1, 2, none⟩ = some (.int .i64 db.plan.terrain.height) ∧ W.cell? ⟨w.heap.size + 1, 3, none⟩ = some (vdb3) ∧ W.cell? ⟨w.heap.size + 1, 4, none⟩ = some (vdb4) ∧ W.cell? ⟨w.heap.size + 1, 5, none⟩ = some (vdb5) ∧ W.cell? ⟨w.heap.size + 1, 6, none⟩ = some (vdb6) ∧ W.cell? ⟨w.heap.size + 1, 7, none⟩ = some (vdb7) ∧ W.cell? ⟨w.heap.size + 1, 8, none⟩ = some (vdb8) ∧ W.cell? ⟨w.heap.size + 1, 9, none⟩ = some (vdb9) ∧ W.cell? ⟨w.heap.size + 1, 10, none⟩ = some (vdb10) ∧ W.cell? ⟨w.heap.size + 1, 11, none⟩ = some (vdb11) ∧ W.cell? ⟨w.heap.size + 1, 12, none⟩ = some (vdb12) ∧ W.cell? ⟨w.heap.size + 1, 13, none⟩ = some (.int .i64 db.plan.day) ∧ W.cell? ⟨w.heap.size + 1, 14, none⟩ = some (vdb14)) (first | exact hcf | (refine ⟨?_, ?_, ?_, ?_, ?_, ?_, ?_, ?_, ?_, ?_, ?_, ?_, ?_, ?_, ?_, ?_, ?_, ?_, ?_, ?_, ?_, ?_, ?_, ?_, ?_, ?_, ?_, ?_, ?_, ?_⟩ <;> simp [go_sem, *]))
           (first
             | (go_at_call 8; refine (HTO.out).mono ?_; rintro e wt ⟨at3, ct3, at4, ct4, at5, ct5, at6, ct6, at7, ct7, at8, ct8, at9, ct9, at10, ct10, at11, ct11, at12, ct12, at14, ct14, ft, rfl, hbt, ovt, ivt⟩; obtain ⟨qUt, _, yUt⟩ := bcellAt hbt (b := w5.heap.size) (by show w5.heap.size < w7.heap.size; omega); obtain ⟨qAt, _, yAt⟩ := bcellAt hbt (b := w.heap.size + 1) (by show w.heap.size + 1 < w7.heap.size; omega))
             | (go_at_call 10; refine (HEQ.out _ _ _ _ _ _ _ _ _ _ _ _ _ _ _ _ _ _ _ _ _ _ _ (hsame.trans hbt) (ovt.rd ivt) rfl rfl rfl rfl rfl rfl rfl rfl rfl rfl rfl).mono ?_; rintro e w8 ⟨rfl, hbe⟩; obtain ⟨qUe, _, yUe⟩ := bcellAt hbe (b := w5.heap.size) yUt; obtain ⟨qAe, _, yAe⟩ := bcellAt hbe (b := w.heap.size + 1) yAt))
         have hb8 : Below w7.heap.size w7 w8 := (hsame.trans hbt).trans (hbe.mono (hsame.trans hbt).size)
         clear HEQ HTO BBd hcf qUt qAt qUe qAe yUt yAt yUe yAe hbe hbt ovt ivt hsame
         have hbb8 : Below w7.heap.size w7 w8 := hb8
         have z8 := hbb8.size
         obtain ⟨qAda8, _, yAda8⟩ := bcellAt hb8 (b := w.heap.size) (by first | omega | (simp; done) | (simp; omega))
         obtain ⟨qAdb8, _, yAdb8⟩ := bcellAt hb8 (b := w.heap.size + 1) (by first | omega | (simp; done) | (simp; omega))
         obtain ⟨qUda8, _, yUda8⟩ := bcellAt hb8 (b := w4.heap.size) (by first | omega | (simp; done) | (simp; omega))
         obtain ⟨qUdb8, _, yUdb8⟩ := bcellAt hb8 (b := w5.heap.size) (by first | omega | (simp; done) | (simp; omega))
         have BB8 := Lib.hid (BB7.out.trans (hbb8.mono (by omega)))
         have ouda3_8 := Lib.hid (ouda3_7.out.below iuda3 (by omega) hbb8)
         have ouda4_8 := Lib.hid (ouda4_7.out.below iuda4 (by omega) hbb8)
         have ouda5_8 := Lib.hid (ouda5_7.out.below iuda5 (by omega) hbb8)
         have ouda6_8 := Lib.hid (ouda6_7.out.below iuda6 (by omega) hbb8)
         have ouda7_8 := Lib.hid (ouda7_7.out.below iuda7 (by omega) hbb8)
         have ouda8_8 := Lib.hid (ouda8_7.out.below iuda8 (by omega) hbb8)
         have ouda9_8 := Lib.hid (ouda9_7.out.below iuda9 (by omega) hbb8)
         have ouda10_8 := Lib.hid (ouda10_7.out.below iuda10 (by omega) hbb8)
         have ouda11_8 := Lib.hid (ouda11_7.out.below iuda11 (by omega) hbb8)
         have ouda12_8 := Lib.hid (ouda12_7.out.below iuda12 (by omega) hbb8)
         have ouda14_8 := Lib.hid (ouda14_7.out.below iuda14 (by omega) hbb8)
         have oudb3_8 := Lib.hid (oudb3_7.out.below iudb3 (by omega) hbb8)
         have oudb4_8 := Lib.hid (oudb4_7.out.below iudb4 (by omega) hbb8)
         have oudb5_8 := Lib.hid (oudb5_7.out.below iudb5 (by omega) hbb8)
         have oudb6_8 := Lib.hid (oudb6_7.out.below iudb6 (by omega) hbb8)
         have oudb7_8 := Lib.hid (oudb7_7.out.below iudb7 (by omega) hbb8)
         have oudb8_8 := Lib.hid (oudb8_7.out.below iudb8 (by omega) hbb8)
         have oudb9_8 := Lib.hid (oudb9_7.out.below iudb9 (by omega) hbb8)
         have oudb10_8 := Lib.hid (oudb10_7.out.below iudb10 (by omega) hbb8)
         have oudb11_8 := Lib.hid (oudb11_7.out.below iudb11 (by omega) hbb8)
         have oudb12_8 := Lib.hid (oudb12_7.out.below iudb12 (by omega) hbb8)
         have oudb14_8 := Lib.hid (oudb14_7.out.below iudb14 (by omega) hbb8)
         clear hbb8
         as_aux_lemma =>
          go_wp2
          go_ret
          exact ⟨rfl, BB8.out⟩
end Go.Proofs.YtjfmkmcefnidcaaGreat.fnExactSameDesk
