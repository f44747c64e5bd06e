/- Contract: the radiated power of a sector, for the reference. Conditions: valid networks. -/
import Derived.Test.YtefefgamiaganaaEirp4
namespace Go.Proofs.Ytefefgamiaganaa
open Go.RowKit
set_option linter.unusedVariables false
set_option linter.unusedSimpArgs false

theorem over_drawn {P : Program} {f : FuncId} {args : Array Value} {B : Nat} {w0 X : World} {v : Value} (h : Calls P f args (over B w0 X) fun e w' => e = .returned v ∧ ∃ n, w' = (over B w0 X).drewN n) :
    Calls P f args (over B w0 X) fun e w'' => e = .returned v ∧ ∃ X', w'' = over B w0 X' :=
  h.mono fun _ w' ⟨he, n, hw⟩ => ⟨he, w', by rw [hw]; exact (over_self (below_drewN (over_below B w0 X) n)).symm⟩
set_option maxHeartbeats 8000000 in
set_option maxRecDepth 100000 in
theorem l14Eirp_any (n : DNetwork) (v1 v2 v3 : Value) (bp q : Nat) (bb e : Int) (w : World) (r1 : Rd w.heap.size w (DSector.sT n.sectors) v1) (r2 : Rd w.heap.size w (DAntenna.sT n.antennas) v2) (r3 : Rd w.heap.size w (DRadio.sT n.radios) v3) (hbp : bp < w.heap.size) (p1 : w.cell? ⟨bp, 1, none⟩ = some v1) (p2 : w.cell? ⟨bp, 2, none⟩ = some v2) (p3 : w.cell? ⟨bp, 3, none⟩ = some v3) (l1 : n.sectors.length ≤ 1099511627776) (l2 : n.antennas.length ≤ 1099511627776) (l3 : n.radios.length ≤ 1099511627776) (hq : q < n.sectors.length) (ka kr : Nat) (hp : Parts n (gSector n.sectors q) ka kr) (b0 : 0 ≤ bb) (b1 : bb ≤ 359) (e0 : -90 ≤ e) (e1 : e ≤ 90) :
    Calls Try.prog 56 #[.pointer (some ⟨bp, 0, none⟩), .int .i64 (q : Int), .int .i64 bb, .int .i64 e] w fun r w' => r = .returned (.int .i64 (eirpN n (gSector n.sectors q) bb e)) ∧ Below w.heap.size w w' := by
  have hka := hp.la
  have hlr := hp.lr
  have hia := hp.ia
  have hir := hp.ir
  have HE : Hid (eirpN n (gSector n.sectors q) bb e = (gRadio n.radios kr).power - (gRadio n.radios kr).feeder + towN (gAntenna n.antennas ka) (gSector n.sectors q).azimuth (gSector n.sectors q).tilt bb e) := by show _ = _; unfold eirpN; rw [hia, hir, Int.toNat_natCast, Int.toNat_natCast]
  have HA : Hid (∀ W : World, Below w.heap.size w W → Calls Try.prog 90 #[.pointer (some ⟨bp, 0, none⟩), .string (gSector n.sectors q).antenna] W fun e w' => e = .returned (.int .i64 (ka : Int)) ∧ W = w') := fun W hW => by
    have := l14Antenna_any n.antennas (gSector n.sectors q).antenna v2 bp w.heap.size W (r2.below hW) hW.size ((bat hW bp 2 hbp).trans p2) l2
    rw [hia] at this
    exact this
  have HR : Hid (∀ W : World, Below w.heap.size w W → Calls Try.prog 89 #[.pointer (some ⟨bp, 0, none⟩), .string (gSector n.sectors q).radio] W fun e w' => e = .returned (.int .i64 (kr : Int)) ∧ W = w') := fun W hW => by
    have := l14Radio_any n.radios (gSector n.sectors q).radio v3 bp w.heap.size W (r3.below hW) hW.size ((bat hW bp 3 hbp).trans p3) l3
    rw [hir] at this
    exact this
  obtain ⟨rp0, rp1⟩ := (radio_bd hp.rok).1
  obtain ⟨rf0, rf1⟩ := (radio_bd hp.rok).2
  obtain ⟨xa0, xa1⟩ := (sector_bd hp.sec).1
  obtain ⟨xt0, xt1⟩ := (sector_bd hp.sec).2
  obtain ⟨tb0, tb1⟩ := tow_bd hp.ok (gSector n.sectors q).azimuth (gSector n.sectors q).tilt bb e
  obtain ⟨hl, hm⟩ := antB_loss hp.ok
  obtain ⟨ag0, ag1⟩ := ant_gain hp.ok
  obtain ⟨a1', c1, e1', -, -, hcl1⟩ := DSector.rd r1
  obtain ⟨bs, os, es, hbs, hats⟩ := hcl1 (by omega)
  subst es e1'
  obtain ⟨a2', c2, e2', -, -, hcl2⟩ := DAntenna.rd r2
  obtain ⟨ba, oa, ea, hba, hata⟩ := hcl2 (by omega)
  subst ea e2'
  obtain ⟨a3', c3, e3', -, -, hcl3⟩ := DRadio.rd r3
  obtain ⟨br, og, eg, hbr, hatr⟩ := hcl3 (by omega)
  subst eg e3'
  obtain ⟨-, -, u2, u3, -, u5, u6, -, -⟩ := hats q hq
  obtain ⟨-, t1, ⟨x2, t2, rx2⟩, ⟨x3, t3, rx3⟩⟩ := hata ka hka
  obtain ⟨-, g1, g2, -, -, -⟩ := hatr kr hlr
  rw [gSector_eq hq] at u2 u3 u5 u6
  rw [gAntenna_eq hka] at t1 rx2 rx3
  rw [gRadio_eq hlr] at g1 g2
  have HTW : Hid (∀ W : World, Below w.heap.size w W → Calls Try.prog 91 #[.pointer (some ⟨ba, oa + ka * 4, none⟩), .int .i64 (gSector n.sectors q).azimuth, .int .i64 (gSector n.sectors q).tilt, .int .i64 bb, .int .i64 e] W fun r w' => r = .returned (.int .i64 (towN (gAntenna n.antennas ka) (gSector n.sectors q).azimuth (gSector n.sectors q).tilt bb e)) ∧ ∃ m, w' = W.drewN m) := fun W hW => l06Toward_any _ x2 x3 _ _ _ _ ba (oa + ka * 4) w.heap.size W (rx2.below hW) (rx3.below hW) hW.size ((bat hW ba _ hba).trans t1) ((bat hW ba _ hba).trans t2) ((bat hW ba _ hba).trans t3) hl hm ag0 ag1 xa0 xa1 xt0 xt1 b0 b1 e0 e1
  have i1 : (0 : Int) ≤ (ka : Int) := by omega
  have i2 : (ka : Int) < (n.antennas.length : Int) := by omega
  have i3 : (0 : Int) ≤ (kr : Int) := by omega
  have i4 : (kr : Int) < (n.radios.length : Int) := by omega
  have i5 : (0 : Int) ≤ (q : Int) := by omega
  have i6 : (q : Int) < (n.sectors.length : Int) := by omega
  clear hcl1 hcl2 hcl3 hats hata hatr r1 r2 r3 hia hir hl hm rx2 rx3 hp t1 t2 t3
  generalize towN (gAntenna n.antennas ka) (gSector n.sectors q).azimuth (gSector n.sectors q).tilt bb e = T at *
  generalize gRadio n.radios kr = R at *
  generalize gSector n.sectors q = x at *
  have j1 : IntKind.i64.wrap (R.power - R.feeder) = R.power - R.feeder := IntWalk.i64_in _ (by omega)
  have j2 : IntKind.i64.wrap (R.power - R.feeder + T) = R.power - R.feeder + T := IntWalk.i64_in _ (by omega)
  have J1 := Lib.hid j1
  have J2 := Lib.hid j2
  clear j1 j2
  have oP := overC (w0 := w) hbp
  have oS := overC (w0 := w) hbs
  have oR := overC (w0 := w) hbr
  go_enter Try.func56, Try.ntmps56
  go_wp2
  refine wp_region_over w.heap.size w (Below.refl _ _) (by kernel_rfl) (by kernel_rfl) ?_
  repeat (go_big_quiet_step (first | (go_at_call 89; exact over_same (HR.out _ (over_below _ _ _)))))
  refine wpQuiet_nil ?_
  rintro _ ⟨X1, rfl⟩
  go_wp2
  refine wp_region_over w.heap.size w (over_below _ _ _) (by kernel_rfl) (by kernel_rfl) ?_
  repeat (go_big_quiet_step (first | (go_at_call 90; exact over_same (HA.out _ (over_below _ _ _)))))
  refine wpQuiet_nil ?_
  rintro _ ⟨X2, rfl⟩
  have j1 := J1.out
  have j2 := J2.out
  go_wp2
  refine wp_region_over w.heap.size w (over_below _ _ _) (by kernel_rfl) (by kernel_rfl) ?_
  repeat (go_big_quiet_step (first | (go_at_call 91; exact over_drawn (HTW.out _ (over_below _ _ _)))))
  refine wpQuiet_nil ?_
  rintro _ ⟨X3, rfl⟩
  have hX := over_below w.heap.size w X3
  clear j1 j2 oP oS oR
  generalize over w.heap.size w X3 = w4 at *
  have BH := Lib.hid hX
  clear hX
  go_wp2
  go_ret
  exact ⟨by rw [HE.out]; rfl, BH.out⟩
end Go.Proofs.Ytefefgamiaganaa
