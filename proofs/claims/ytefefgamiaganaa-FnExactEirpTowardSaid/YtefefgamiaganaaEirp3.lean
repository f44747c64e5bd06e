/- Contracts: the gain of an antenna toward a direction, continued. Conditions: valid antennas. -/
import Derived.Test.YtefefgamiaganaaEirp2
import Derived.Test.YtefefgamiaganaaOver
namespace Go.Proofs.Ytefefgamiaganaa
open Go.RowKit
set_option linter.unusedVariables false
set_option linter.unusedSimpArgs false

def upN (e tilt : Int) : Int := min (max (e + tilt) (-90)) 90
def towN (a : DAntenna) (az tilt b e : Int) : Int := a.gain - min (horN a.horizontal (b - az) + verN a.vertical (upN e tilt)) 60000
theorem up_bd (e tilt : Int) : -90 ≤ upN e tilt ∧ upN e tilt ≤ 90 := by unfold upN; omega
set_option maxHeartbeats 8000000 in
set_option maxRecDepth 100000 in
theorem toward_any (x : DAntenna) (vh vv : Value) (az tilt b e : Int) (w : World) (hh : Rd w.heap.size w (intsT x.horizontal) vh) (hv : Rd w.heap.size w (intsT x.vertical) vv) (hL : Loss x.horizontal 36) (hM : Loss x.vertical 19)
    (g0 : -60000 ≤ x.gain) (g1 : x.gain ≤ 60000) (a0 : 0 ≤ az) (a1 : az ≤ 359) (t0 : 0 ≤ tilt) (t1 : tilt ≤ 30) (b0 : 0 ≤ b) (b1 : b ≤ 359) (e0 : -90 ≤ e) (e1 : e ≤ 90) :
    Calls Try.prog 94 #[.agg #[.string x.name, .int .i64 x.gain, vh, vv], .int .i64 az, .int .i64 tilt, .int .i64 b, .int .i64 e] w fun r w' => r = .returned (.int .i64 (towN x az tilt b e)) ∧ Below w.heap.size w w' := by
  obtain ⟨ah, ch, eh, _, _, _⟩ := hh.ints
  obtain ⟨av, cv, ev, _, _, _⟩ := hv.ints
  subst eh ev
  have hu := up_bd e tilt
  have HH : Hid (∀ W : World, Below w.heap.size w W → Calls Try.prog 117 #[.agg #[.string x.name, .int .i64 x.gain, .slice ah x.horizontal.length ch, .slice av x.vertical.length cv], .int .i64 (b - az)] W fun r w' => r = .returned (.int .i64 (horN x.horizontal (b - az))) ∧ Below W.heap.size W w') := fun W hW => horizontal_any x _ _ (b - az) W ((hh.below hW).mono hW.size) hL
  have HV : Hid (∀ W : World, Below w.heap.size w W → Calls Try.prog 118 #[.agg #[.string x.name, .int .i64 x.gain, .slice ah x.horizontal.length ch, .slice av x.vertical.length cv], .int .i64 (upN e tilt)] W fun r w' => r = .returned (.int .i64 (verN x.vertical (upN e tilt))) ∧ Below W.heap.size W w') := fun W hW => vertical_any x _ _ (upN e tilt) W ((hv.below hW).mono hW.size) hM hu.1 hu.2
  have hbd := hor_bd hL (b - az)
  have vbd := ver_bd hM (upN e tilt) hu.1 hu.2
  have HT : Hid (towN x az tilt b e = x.gain - min (horN x.horizontal (b - az) + verN x.vertical (upN e tilt)) 60000) := rfl
  have hup : (e + tilt = -90 ∧ upN e tilt = -90) ∨ (-90 < e + tilt ∧ e + tilt < 90 ∧ upN e tilt = e + tilt) ∨ (e + tilt = 90 ∧ upN e tilt = 90) ∨ (90 < e + tilt ∧ upN e tilt = 90) := by unfold upN; omega
  generalize horN x.horizontal (b - az) = h at *
  generalize verN x.vertical (upN e tilt) = v at *
  have bb : Below w.heap.size w (w.alloc (.cells #[.string x.name, .int .i64 x.gain, .slice ah x.horizontal.length ch, .slice av x.vertical.length cv] 120)) := (Below.refl _ _).alloc (Nat.le_refl _) _
  have f0 : (w.alloc (.cells #[.string x.name, .int .i64 x.gain, .slice ah x.horizontal.length ch, .slice av x.vertical.length cv] 120)).cell? ⟨w.heap.size, 0, none⟩ = some (.string x.name) := by simp [go_sem]
  have f1 : (w.alloc (.cells #[.string x.name, .int .i64 x.gain, .slice ah x.horizontal.length ch, .slice av x.vertical.length cv] 120)).cell? ⟨w.heap.size, 1, none⟩ = some (.int .i64 x.gain) := by simp [go_sem]
  have f2 : (w.alloc (.cells #[.string x.name, .int .i64 x.gain, .slice ah x.horizontal.length ch, .slice av x.vertical.length cv] 120)).cell? ⟨w.heap.size, 2, none⟩ = some (.slice ah x.horizontal.length ch) := by simp [go_sem]
  have f3 : (w.alloc (.cells #[.string x.name, .int .i64 x.gain, .slice ah x.horizontal.length ch, .slice av x.vertical.length cv] 120)).cell? ⟨w.heap.size, 3, none⟩ = some (.slice av x.vertical.length cv) := by simp [go_sem]
  have fz : w.heap.size < (w.alloc (.cells #[.string x.name, .int .i64 x.gain, .slice ah x.horizontal.length ch, .slice av x.vertical.length cv] 120)).heap.size := by simp
  clear hh hv hL hM
  go_enter Try.func94, Try.ntmps94
  go_wp2
  generalize w.alloc (.cells #[.string x.name, .int .i64 x.gain, .slice ah x.horizontal.length ch, .slice av x.vertical.length cv] 120) = W1 at *
  have BB := Lib.hid bb
  clear bb
  have oX := overC (w0 := W1) fz
  have j1 : IntKind.i64.wrap (b - az) = b - az := IntWalk.i64_in _ (by omega)
  have j2 : IntKind.i64.wrap (e + tilt) = e + tilt := IntWalk.i64_in _ (by omega)
  have j3 : IntKind.i64.wrap (h + v) = h + v := IntWalk.i64_in _ (by omega)
  obtain ⟨h0, h1⟩ := hbd
  obtain ⟨v0, v1⟩ := vbd
  have HB1 := Lib.hid h1
  rcases hup with ⟨m1, m2⟩ | ⟨m1, m3, m2⟩ | ⟨m1, m2⟩ | ⟨m1, m2⟩
  all_goals
    rw [m2] at HV
    clear m2 hu
    refine wp_region_over W1.heap.size W1 (Below.refl _ _) (by kernel_rfl) (by kernel_rfl) ?_
    repeat (go_big_quiet_step (first | (go_at_call 117; exact over_left (Nat.le_refl _) (HH.out _ (BB.out.trans ((over_below _ _ _).mono BB.out.size)))) | (go_at_call 118; exact over_left (Nat.le_refl _) (HV.out _ (BB.out.trans ((over_below _ _ _).mono BB.out.size))))))
    refine wpQuiet_nil ?_
    rintro _ ⟨X, rfl⟩
    have hX := over_below W1.heap.size W1 X
    have c1 := (oX X 1).trans f1
    clear oX j1 j2 j3
    generalize over W1.heap.size W1 X = w2 at *
    have BE := Lib.hid (BB.out.trans (hX.mono BB.out.size))
    clear hX
    rcases Int.lt_trichotomy (h + v) 60000 with hm | hm | hm
    · have HM : Hid (min (h + v) 60000 = h + v) := by show _ = _; omega
      go_wp2
      go_ret
      exact ⟨by rw [HT.out, HM.out]; rfl, BE.out⟩
    · have HM : Hid (min (h + v) 60000 = 60000) := by show _ = _; omega
      rw [hm]
      go_wp2
      go_ret
      exact ⟨by rw [HT.out, HM.out]; rfl, BE.out⟩
    · have HM : Hid (min (h + v) 60000 = 60000) := by show _ = _; omega
      go_wp2
      go_ret
      exact ⟨by rw [HT.out, HM.out]; rfl, BE.out⟩
theorem l00Min_any (a b : Int) (w : World) : Calls Try.prog 112 #[.int .i64 a, .int .i64 b] w fun e w' => e = .returned (.int .i64 (min a b)) ∧ w = w' := by
  by_cases h : a < b
  · have e : min a b = a := by omega
    rw [e]; clear e
    go_enter Try.func112, Try.ntmps112
    go_wp2
    go_ret
    exact ⟨rfl, rfl⟩
  · have e : min a b = b := by omega
    rw [e]; clear e
    go_enter Try.func112, Try.ntmps112
    go_wp2
    go_ret
    exact ⟨rfl, rfl⟩
theorem l00MaxE_any (a b : Int) (w : World) : Calls Try.prog 111 #[.int .i64 a, .int .i64 b] w fun e w' => e = .returned (.int .i64 (max a b)) ∧ w = w' := by
  by_cases h : b < a
  · have e : max a b = a := by omega
    rw [e]; clear e
    go_enter Try.func111, Try.ntmps111
    go_wp2
    go_ret
    exact ⟨rfl, rfl⟩
  · have e : max a b = b := by omega
    rw [e]; clear e
    go_enter Try.func111, Try.ntmps111
    go_wp2
    go_ret
    exact ⟨rfl, rfl⟩
theorem quiet_drawn {P : Program} {f : FuncId} {args : Array Value} {w : World} {n : Nat} {v : Value}
    (h : Calls P f args (w.drewN n) fun e w' => e = .returned v ∧ ∃ m, w' = (w.drewN n).drewN m) : Calls P f args (w.drewN n) fun e w'' => e = .returned v ∧ ∃ m, w'' = w.drewN m := Calls.quiet_of h
set_option maxHeartbeats 8000000 in
set_option maxRecDepth 100000 in
theorem l06Toward_any (x : DAntenna) (vh vv : Value) (az tilt b e : Int) (bp op B : Nat) (w : World) (hh : Rd B w (intsT x.horizontal) vh) (hv : Rd B w (intsT x.vertical) vv) (hB : B ≤ w.heap.size) (p1 : w.cell? ⟨bp, op + 1, none⟩ = some (.int .i64 x.gain)) (p2 : w.cell? ⟨bp, op + 2, none⟩ = some vh) (p3 : w.cell? ⟨bp, op + 3, none⟩ = some vv) (hL : Loss x.horizontal 36) (hM : Loss x.vertical 19)
    (g0 : -60000 ≤ x.gain) (g1 : x.gain ≤ 60000) (a0 : 0 ≤ az) (a1 : az ≤ 359) (t0 : 0 ≤ tilt) (t1 : tilt ≤ 30) (b0 : 0 ≤ b) (b1 : b ≤ 359) (e0 : -90 ≤ e) (e1 : e ≤ 90) :
    Calls Try.prog 91 #[.pointer (some ⟨bp, op, none⟩), .int .i64 az, .int .i64 tilt, .int .i64 b, .int .i64 e] w fun r w' => r = .returned (.int .i64 (towN x az tilt b e)) ∧ ∃ n, w' = w.drewN n := by
  have hu := up_bd e tilt
  have HH : Hid (∀ n, Calls Try.prog 113 #[.pointer (some ⟨bp, op, none⟩), .int .i64 (b - az)] (w.drewN n) fun r w' => r = .returned (.int .i64 (horN x.horizontal (b - az))) ∧ ∃ m, w' = (w.drewN n).drewN m) := fun n => l06Across_any x vh (b - az) bp op B (w.drewN n) (hh.drewN n) hB p2 hL
  have HV : Hid (∀ n, Calls Try.prog 114 #[.pointer (some ⟨bp, op, none⟩), .int .i64 (upN e tilt)] (w.drewN n) fun r w' => r = .returned (.int .i64 (verN x.vertical (upN e tilt))) ∧ ∃ m, w' = (w.drewN n).drewN m) := fun n => l06Up_any x vv (upN e tilt) bp op B (w.drewN n) (hv.drewN n) hB p3 hM hu.1 hu.2
  have hbd := hor_bd hL (b - az)
  have vbd := ver_bd hM (upN e tilt) hu.1 hu.2
  have HT : Hid (towN x az tilt b e = x.gain - min 60000 (horN x.horizontal (b - az) + verN x.vertical (upN e tilt))) := by show _ = _; unfold towN; rw [Int.min_comm]
  have hup : max (-90) (min 90 (e + tilt)) = upN e tilt := by unfold upN; omega
  generalize horN x.horizontal (b - az) = h at *
  generalize verN x.vertical (upN e tilt) = v at *
  generalize upN e tilt = U at *
  obtain ⟨h0, h1⟩ := hbd
  obtain ⟨v0, v1⟩ := vbd
  obtain ⟨u0, u1⟩ := hu
  have HX := Lib.hid hup
  have mb : 0 ≤ min 60000 (h + v) ∧ min 60000 (h + v) ≤ 60000 := by omega
  obtain ⟨mb0, mb1⟩ := mb
  clear hh hv hL hM p2 p3 hup
  go_enter Try.func91, Try.ntmps91
  go_wp2_with (first | (go_at_call 112; refine (l00Min_any _ _ _).mono ?_; rintro e' w1 ⟨rfl, rfl⟩) | (go_at_call 111; refine (l00MaxE_any _ _ _).mono ?_; rintro e' w1 ⟨rfl, rfl⟩; rw [HX.out]))
  have j1 : IntKind.i64.wrap (b - az) = b - az := IntWalk.i64_in _ (by omega)
  have j3 : IntKind.i64.wrap (h + v) = h + v := IntWalk.i64_in _ (by omega)
  have j4 : IntKind.i64.wrap (x.gain - min 60000 (h + v)) = x.gain - min 60000 (h + v) := IntWalk.i64_in _ (by omega)
  go_quiet (first | (go_at_call 113; exact quiet_drawn (HH.out _)) | (go_at_call 114; exact quiet_drawn (HV.out _)) | (go_at_call 112; exact quiet_left (l00Min_any _ _ _)))
  clear j1 j3 j4
  go_wp2
  go_ret
  exact ⟨by rw [HT.out]; rfl, _, rfl⟩
end Go.Proofs.Ytefefgamiaganaa
