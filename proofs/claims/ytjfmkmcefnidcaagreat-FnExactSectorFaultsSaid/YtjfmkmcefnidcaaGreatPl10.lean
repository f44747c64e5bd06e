/- Contracts: plans are valid, for the program and for the reference. Conditions: bounded sizes. -/
import Derived.Test.YtjfmkmcefnidcaaGreatPl8
import Derived.Test.YtjfmkmcefnidcaaGreatPl6
import Derived.Test.YtjfmkmcefnidcaaGreatNetFo
import Derived.Test.YtjfmkmcefnidcaaGreatHPlan
namespace Go.Proofs.YtjfmkmcefnidcaaGreat
set_option maxHeartbeats 16000000
set_option maxRecDepth 100000
open Go.RowKit
set_option linter.unusedVariables false
set_option linter.unusedSimpArgs false
def planB (p:DPlan):Bool:=terrB p.terrain&&(netB p.network&&(bandsB p.bands&&(holdB p.licences&&(protsB p.protected_&&(inB p.day 0 99999&&apS p.apart p.network.sectors.length)))))
structure PlanRd (B:Nat) (w:World) (p:DPlan) (v3 v4 v5 v6 v7 v8 v9 v10 v11 v12:Value):Prop where
 r3:Rd B w (intsT p.terrain.heights) v3
 r4:Rd B w (intsT p.terrain.clutter) v4
 r5:Rd B w (DSite.sT p.network.sites) v5
 r6:Rd B w (DSector.sT p.network.sectors) v6
 r7:Rd B w (DAntenna.sT p.network.antennas) v7
 r8:Rd B w (DRadio.sT p.network.radios) v8
 r9:Rd B w (DBand.sT p.bands) v9
 r10:Rd B w (DLicence.sT p.licences) v10
 r11:Rd B w (DProtected.sT p.protected_) v11
 r12:Rd B w (intssT p.apart) v12
theorem PlanRd.below {B:Nat} {w w':World} {p:DPlan} {v3 v4 v5 v6 v7 v8 v9 v10 v11 v12:Value} (h:PlanRd B w p v3 v4 v5 v6 v7 v8 v9 v10 v11 v12) (hb:Below B w w'):PlanRd B w' p v3 v4 v5 v6 v7 v8 v9 v10 v11 v12:=⟨h.r3.below hb,h.r4.below hb,h.r5.below hb,h.r6.below hb,h.r7.below hb,h.r8.below hb,h.r9.below hb,h.r10.below hb,h.r11.below hb,h.r12.below hb⟩
theorem PlanRd.mono {B B':Nat} {w:World} {p:DPlan} {v3 v4 v5 v6 v7 v8 v9 v10 v11 v12:Value} (h:PlanRd B w p v3 v4 v5 v6 v7 v8 v9 v10 v11 v12) (hb:B≤B'):PlanRd B' w p v3 v4 v5 v6 v7 v8 v9 v10 v11 v12:=⟨h.r3.mono hb,h.r4.mono hb,h.r5.mono hb,h.r6.mono hb,h.r7.mono hb,h.r8.mono hb,h.r9.mono hb,h.r10.mono hb,h.r11.mono hb,h.r12.mono hb⟩
theorem rowI_le (m:List (List Int)):∀ i,i<m.length→(rowI m i).length≤sumLen m:=by
 induction m with
 | nil=>intro i hi;simp at hi
 | cons r m ih =>
  intro i hi
  cases i with
  | zero=>simp[rowI,sumLen]
  | succ i =>
   have:=ih i (by simpa using hi)
   simp[rowI,sumLen] at this ⊢
   omega
structure PlanSz (p:DPlan):Prop where
 heights:p.terrain.heights.length≤1099511627776
 clutter:p.terrain.clutter.length≤1099511627776
 net:sizL p.network.tr≤1099511627776
 sites:p.network.sites.length≤1099511627776
 sectors:p.network.sectors.length≤1099511627776
 antennas:p.network.antennas.length≤1099511627776
 radios:p.network.radios.length≤1099511627776
 bands:p.bands.length≤1099511627776
 licences:p.licences.length≤1099511627776
 prot:p.protected_.length≤1099511627776
 apart:p.apart.length≤1099511627776
 rows:∀ i,i<p.apart.length→(rowI p.apart i).length≤1099511627776
theorem PlanSz.of {p:DPlan} (h:sizL p.tr≤1099511627776):PlanSz p:=by
 have h1:=DPlan.siz_tr p
 have h2:=DTerrain.siz_tr p.terrain
 have h3:=DNetwork.siz_tr p.network
 rw[siz_ints,siz_ints] at h2
 rw[DSite.siz_s,DSector.siz_s,DAntenna.siz_s,DRadio.siz_s] at h3
 rw[DBand.siz_s,DLicence.siz_s,DProtected.siz_s,siz_intss] at h1
 have h4:=rowI_le p.apart
 constructor<;>first|omega|(intro i hi;have:=h4 i hi;omega)
theorem l30Ok_any (p:DPlan) (v3 v4 v5 v6 v7 v8 v9 v10 v11 v12:Value) (b off:Nat) (w:World) (h:PlanRd w.heap.size w p v3 v4 v5 v6 v7 v8 v9 v10 v11 v12) (hs:sizL p.tr≤1099511627776) (hk:p.ok) (c0:w.cell? ⟨b,off,none⟩=some (.int .i64 p.terrain.step)) (c1:w.cell? ⟨b,off+1,none⟩=some (.int .i64 p.terrain.width)) (c2:w.cell? ⟨b,off+2,none⟩=some (.int .i64 p.terrain.height)) (c3:w.cell? ⟨b,off+3,none⟩=some (v3)) (c4:w.cell? ⟨b,off+4,none⟩=some (v4)) (c5:w.cell? ⟨b,off+5,none⟩=some (v5)) (c6:w.cell? ⟨b,off+6,none⟩=some (v6)) (c7:w.cell? ⟨b,off+7,none⟩=some (v7)) (c8:w.cell? ⟨b,off+8,none⟩=some (v8)) (c9:w.cell? ⟨b,off+9,none⟩=some (v9)) (c10:w.cell? ⟨b,off+10,none⟩=some (v10)) (c11:w.cell? ⟨b,off+11,none⟩=some (v11)) (c12:w.cell? ⟨b,off+12,none⟩=some (v12)) (c13:w.cell? ⟨b,off+13,none⟩=some (.int .i64 p.day)) :
  Calls Tryz.prog 44 #[.pointer (some ⟨b,off,none⟩)] w fun e w'=>e=.returned (.bool (planB p))∧Below w.heap.size w w':=by
 have hbl:=cell_lt c0
 dsimp only at hbl
 have H:=Lib.hid h
 clear h
 have Z:=Lib.hid (PlanSz.of hs)
 obtain⟨a6,k6,e6,_,_,_⟩:=DSector.rd H.out.r6
 subst e6
 have C0:Hid (∀ W:World,Below w.heap.size w W→Calls Tryz.prog 91 #[.pointer (some ⟨b,off,none⟩)] W fun e w'=>e=.returned (.bool (terrB p.terrain))∧Below W.heap.size W w'):=fun W hW=>l04Ok_any p.terrain v3 v4 b off w.heap.size W (H.out.r3.below hW) (H.out.r4.below hW) hW.size ((hW.cell hbl).trans c0) ((hW.cell hbl).trans c1) ((hW.cell hbl).trans c2) ((hW.cell hbl).trans c3) ((hW.cell hbl).trans c4) Z.out.heights Z.out.clutter
 have C1:Hid (∀ W:World,Below w.heap.size w W→Calls Tryz.prog 92 #[.pointer (some ⟨b,off+5,none⟩)] W fun e w'=>e=.returned (.bool (netB p.network))∧Below W.heap.size W w'):=fun W hW=>l14Ok_off p.network v5 _ v7 v8 b (off+5) W ((H.out.r5.below hW).mono hW.size) ((H.out.r6.below hW).mono hW.size) ((H.out.r7.below hW).mono hW.size) ((H.out.r8.below hW).mono hW.size) (Nat.lt_of_lt_of_le hbl hW.size) ((hW.cell hbl).trans c5) ((hW.cell hbl).trans c6) ((hW.cell hbl).trans c7) ((hW.cell hbl).trans c8) Z.out.net hk.network
 have C2:Hid (∀ W:World,Below w.heap.size w W→Calls Tryz.prog 93 #[v9] W fun e w'=>e=.returned (.bool (bandsB p.bands))∧Below W.heap.size W w'):=fun W hW=>sl15List_any p.bands v9 w.heap.size W (H.out.r9.below hW) hW.size hk.bands Z.out.bands
 have C3:Hid (∀ W:World,Below w.heap.size w W→Calls Tryz.prog 94 #[v10] W fun e w'=>e=.returned (.bool (holdB p.licences))∧Below W.heap.size W w'):=fun W hW=>sL26List_any p.licences v10 w.heap.size W (H.out.r10.below hW) hW.size hk.licences Z.out.licences
 have C4:Hid (∀ W:World,Below w.heap.size w W→Calls Tryz.prog 95 #[v11] W fun e w'=>e=.returned (.bool (protsB p.protected_))∧Below W.heap.size W w'):=fun W hW=>sl27Places_any p.protected_ v11 w.heap.size W (H.out.r11.below hW) hW.size hk.protected_ Z.out.prot
 have C5:Hid (∀ W:World,Below w.heap.size w W→Calls Tryz.prog 96 #[.int .i64 p.day] W fun e w'=>e=.returned (.bool (inB p.day 0 99999))∧W=w'):=fun W hW=>l28Day_any p.day W
 have C6:Hid (∀ W:World,Below w.heap.size w W→Calls Tryz.prog 97 #[v12,.int .i64 (p.network.sectors.length:Int)] W fun e w'=>e=.returned (.bool (apS p.apart p.network.sectors.length))∧Below W.heap.size W w'):=fun W hW=>l30Apart_any p.apart p.network.sectors.length v12 w.heap.size W (H.out.r12.below hW) hW.size Z.out.apart Z.out.sectors Z.out.rows
 by_cases h0:terrB p.terrain=true
 case neg =>
  replace h0:terrB p.terrain=false:=Bool.eq_false_iff.2 h0
  rw[h0] at C0
  have HE:Hid (planB p=false):=by show _=_;unfold planB;simp only[h0]<;>rfl
  go_enter Tryz.func44,Tryz.ntmps44
  go_upto_region 1 with (fail)
  have oB:=overC (w0:=w) (show b<w.heap.size by omega)
  refine wp_region_over w.heap.size w (Below.refl _ _) (by kernel_rfl) (by kernel_rfl) ?_
  repeat (go_big_quiet_step (first|(go_at_call 91;exact over_left (Nat.le_refl _) (C0.out _ (over_below _ _ _)))|(go_at_call 92;exact over_left (Nat.le_refl _) (C1.out _ (over_below _ _ _)))|(go_at_call 93;exact over_left (Nat.le_refl _) (C2.out _ (over_below _ _ _)))|(go_at_call 94;exact over_left (Nat.le_refl _) (C3.out _ (over_below _ _ _)))|(go_at_call 95;exact over_left (Nat.le_refl _) (C4.out _ (over_below _ _ _)))|(go_at_call 96;exact over_same (C5.out _ (over_below _ _ _)))|(go_at_call 97;exact over_left (Nat.le_refl _) (C6.out _ (over_below _ _ _)))))
  refine wpQuiet_nil ?_
  rintro _ ⟨X,rfl⟩
  have BE:=Lib.hid (over_below w.heap.size w X)
  clear oB
  generalize over w.heap.size w X=W9 at *
  go_wp2
  go_ret
  exact⟨by rw[HE.out];rfl,BE.out⟩
 rw[h0] at C0
 by_cases h1:netB p.network=true
 case neg =>
  replace h1:netB p.network=false:=Bool.eq_false_iff.2 h1
  rw[h1] at C1
  have HE:Hid (planB p=false):=by show _=_;unfold planB;simp only[h0,h1]<;>rfl
  go_enter Tryz.func44,Tryz.ntmps44
  go_upto_region 1 with (fail)
  have oB:=overC (w0:=w) (show b<w.heap.size by omega)
  refine wp_region_over w.heap.size w (Below.refl _ _) (by kernel_rfl) (by kernel_rfl) ?_
  repeat (go_big_quiet_step (first|(go_at_call 91;exact over_left (Nat.le_refl _) (C0.out _ (over_below _ _ _)))|(go_at_call 92;exact over_left (Nat.le_refl _) (C1.out _ (over_below _ _ _)))|(go_at_call 93;exact over_left (Nat.le_refl _) (C2.out _ (over_below _ _ _)))|(go_at_call 94;exact over_left (Nat.le_refl _) (C3.out _ (over_below _ _ _)))|(go_at_call 95;exact over_left (Nat.le_refl _) (C4.out _ (over_below _ _ _)))|(go_at_call 96;exact over_same (C5.out _ (over_below _ _ _)))|(go_at_call 97;exact over_left (Nat.le_refl _) (C6.out _ (over_below _ _ _)))))
  refine wpQuiet_nil ?_
  rintro _ ⟨X,rfl⟩
  have BE:=Lib.hid (over_below w.heap.size w X)
  clear oB
  generalize over w.heap.size w X=W9 at *
  go_wp2
  go_ret
  exact⟨by rw[HE.out];rfl,BE.out⟩
 rw[h1] at C1
 by_cases h2:bandsB p.bands=true
 case neg =>
  replace h2:bandsB p.bands=false:=Bool.eq_false_iff.2 h2
  rw[h2] at C2
  have HE:Hid (planB p=false):=by show _=_;unfold planB;simp only[h0,h1,h2]<;>rfl
  go_enter Tryz.func44,Tryz.ntmps44
  go_upto_region 1 with (fail)
  have oB:=overC (w0:=w) (show b<w.heap.size by omega)
  refine wp_region_over w.heap.size w (Below.refl _ _) (by kernel_rfl) (by kernel_rfl) ?_
  repeat (go_big_quiet_step (first|(go_at_call 91;exact over_left (Nat.le_refl _) (C0.out _ (over_below _ _ _)))|(go_at_call 92;exact over_left (Nat.le_refl _) (C1.out _ (over_below _ _ _)))|(go_at_call 93;exact over_left (Nat.le_refl _) (C2.out _ (over_below _ _ _)))|(go_at_call 94;exact over_left (Nat.le_refl _) (C3.out _ (over_below _ _ _)))|(go_at_call 95;exact over_left (Nat.le_refl _) (C4.out _ (over_below _ _ _)))|(go_at_call 96;exact over_same (C5.out _ (over_below _ _ _)))|(go_at_call 97;exact over_left (Nat.le_refl _) (C6.out _ (over_below _ _ _)))))
  refine wpQuiet_nil ?_
  rintro _ ⟨X,rfl⟩
  have BE:=Lib.hid (over_below w.heap.size w X)
  clear oB
  generalize over w.heap.size w X=W9 at *
  go_wp2
  go_ret
  exact⟨by rw[HE.out];rfl,BE.out⟩
 rw[h2] at C2
 by_cases h3:holdB p.licences=true
 case neg =>
  replace h3:holdB p.licences=false:=Bool.eq_false_iff.2 h3
  rw[h3] at C3
  have HE:Hid (planB p=false):=by show _=_;unfold planB;simp only[h0,h1,h2,h3]<;>rfl
  go_enter Tryz.func44,Tryz.ntmps44
  go_upto_region 1 with (fail)
  have oB:=overC (w0:=w) (show b<w.heap.size by omega)
  refine wp_region_over w.heap.size w (Below.refl _ _) (by kernel_rfl) (by kernel_rfl) ?_
  repeat (go_big_quiet_step (first|(go_at_call 91;exact over_left (Nat.le_refl _) (C0.out _ (over_below _ _ _)))|(go_at_call 92;exact over_left (Nat.le_refl _) (C1.out _ (over_below _ _ _)))|(go_at_call 93;exact over_left (Nat.le_refl _) (C2.out _ (over_below _ _ _)))|(go_at_call 94;exact over_left (Nat.le_refl _) (C3.out _ (over_below _ _ _)))|(go_at_call 95;exact over_left (Nat.le_refl _) (C4.out _ (over_below _ _ _)))|(go_at_call 96;exact over_same (C5.out _ (over_below _ _ _)))|(go_at_call 97;exact over_left (Nat.le_refl _) (C6.out _ (over_below _ _ _)))))
  refine wpQuiet_nil ?_
  rintro _ ⟨X,rfl⟩
  have BE:=Lib.hid (over_below w.heap.size w X)
  clear oB
  generalize over w.heap.size w X=W9 at *
  go_wp2
  go_ret
  exact⟨by rw[HE.out];rfl,BE.out⟩
 rw[h3] at C3
 by_cases h4:protsB p.protected_=true
 case neg =>
  replace h4:protsB p.protected_=false:=Bool.eq_false_iff.2 h4
  rw[h4] at C4
  have HE:Hid (planB p=false):=by show _=_;unfold planB;simp only[h0,h1,h2,h3,h4]<;>rfl
  go_enter Tryz.func44,Tryz.ntmps44
  go_upto_region 1 with (fail)
  have oB:=overC (w0:=w) (show b<w.heap.size by omega)
  refine wp_region_over w.heap.size w (Below.refl _ _) (by kernel_rfl) (by kernel_rfl) ?_
  repeat (go_big_quiet_step (first|(go_at_call 91;exact over_left (Nat.le_refl _) (C0.out _ (over_below _ _ _)))|(go_at_call 92;exact over_left (Nat.le_refl _) (C1.out _ (over_below _ _ _)))|(go_at_call 93;exact over_left (Nat.le_refl _) (C2.out _ (over_below _ _ _)))|(go_at_call 94;exact over_left (Nat.le_refl _) (C3.out _ (over_below _ _ _)))|(go_at_call 95;exact over_left (Nat.le_refl _) (C4.out _ (over_below _ _ _)))|(go_at_call 96;exact over_same (C5.out _ (over_below _ _ _)))|(go_at_call 97;exact over_left (Nat.le_refl _) (C6.out _ (over_below _ _ _)))))
  refine wpQuiet_nil ?_
  rintro _ ⟨X,rfl⟩
  have BE:=Lib.hid (over_below w.heap.size w X)
  clear oB
  generalize over w.heap.size w X=W9 at *
  go_wp2
  go_ret
  exact⟨by rw[HE.out];rfl,BE.out⟩
 rw[h4] at C4
 by_cases h5:inB p.day 0 99999=true
 case neg =>
  replace h5:inB p.day 0 99999=false:=Bool.eq_false_iff.2 h5
  rw[h5] at C5
  have HE:Hid (planB p=false):=by show _=_;unfold planB;simp only[h0,h1,h2,h3,h4,h5]<;>rfl
  go_enter Tryz.func44,Tryz.ntmps44
  go_upto_region 1 with (fail)
  have oB:=overC (w0:=w) (show b<w.heap.size by omega)
  refine wp_region_over w.heap.size w (Below.refl _ _) (by kernel_rfl) (by kernel_rfl) ?_
  repeat (go_big_quiet_step (first|(go_at_call 91;exact over_left (Nat.le_refl _) (C0.out _ (over_below _ _ _)))|(go_at_call 92;exact over_left (Nat.le_refl _) (C1.out _ (over_below _ _ _)))|(go_at_call 93;exact over_left (Nat.le_refl _) (C2.out _ (over_below _ _ _)))|(go_at_call 94;exact over_left (Nat.le_refl _) (C3.out _ (over_below _ _ _)))|(go_at_call 95;exact over_left (Nat.le_refl _) (C4.out _ (over_below _ _ _)))|(go_at_call 96;exact over_same (C5.out _ (over_below _ _ _)))|(go_at_call 97;exact over_left (Nat.le_refl _) (C6.out _ (over_below _ _ _)))))
  refine wpQuiet_nil ?_
  rintro _ ⟨X,rfl⟩
  have BE:=Lib.hid (over_below w.heap.size w X)
  clear oB
  generalize over w.heap.size w X=W9 at *
  go_wp2
  go_ret
  exact⟨by rw[HE.out];rfl,BE.out⟩
 rw[h5] at C5
 by_cases h6:apS p.apart p.network.sectors.length=true
 case neg =>
  replace h6:apS p.apart p.network.sectors.length=false:=Bool.eq_false_iff.2 h6
  rw[h6] at C6
  have HE:Hid (planB p=false):=by show _=_;unfold planB;simp only[h0,h1,h2,h3,h4,h5,h6]<;>rfl
  go_enter Tryz.func44,Tryz.ntmps44
  go_upto_region 1 with (fail)
  have oB:=overC (w0:=w) (show b<w.heap.size by omega)
  refine wp_region_over w.heap.size w (Below.refl _ _) (by kernel_rfl) (by kernel_rfl) ?_
  repeat (go_big_quiet_step (first|(go_at_call 91;exact over_left (Nat.le_refl _) (C0.out _ (over_below _ _ _)))|(go_at_call 92;exact over_left (Nat.le_refl _) (C1.out _ (over_below _ _ _)))|(go_at_call 93;exact over_left (Nat.le_refl _) (C2.out _ (over_below _ _ _)))|(go_at_call 94;exact over_left (Nat.le_refl _) (C3.out _ (over_below _ _ _)))|(go_at_call 95;exact over_left (Nat.le_refl _) (C4.out _ (over_below _ _ _)))|(go_at_call 96;exact over_same (C5.out _ (over_below _ _ _)))|(go_at_call 97;exact over_left (Nat.le_refl _) (C6.out _ (over_below _ _ _)))))
  refine wpQuiet_nil ?_
  rintro _ ⟨X,rfl⟩
  have BE:=Lib.hid (over_below w.heap.size w X)
  clear oB
  generalize over w.heap.size w X=W9 at *
  go_wp2
  go_ret
  exact⟨by rw[HE.out];rfl,BE.out⟩
 rw[h6] at C6
 have HE:Hid (planB p=true):=by show _=_;unfold planB;simp only[h0,h1,h2,h3,h4,h5,h6]<;>rfl
 go_enter Tryz.func44,Tryz.ntmps44
 go_upto_region 1 with (fail)
 have oB:=overC (w0:=w) (show b<w.heap.size by omega)
 refine wp_region_over w.heap.size w (Below.refl _ _) (by kernel_rfl) (by kernel_rfl) ?_
 repeat (go_big_quiet_step (first|(go_at_call 91;exact over_left (Nat.le_refl _) (C0.out _ (over_below _ _ _)))|(go_at_call 92;exact over_left (Nat.le_refl _) (C1.out _ (over_below _ _ _)))|(go_at_call 93;exact over_left (Nat.le_refl _) (C2.out _ (over_below _ _ _)))|(go_at_call 94;exact over_left (Nat.le_refl _) (C3.out _ (over_below _ _ _)))|(go_at_call 95;exact over_left (Nat.le_refl _) (C4.out _ (over_below _ _ _)))|(go_at_call 96;exact over_same (C5.out _ (over_below _ _ _)))|(go_at_call 97;exact over_left (Nat.le_refl _) (C6.out _ (over_below _ _ _)))))
 refine wpQuiet_nil ?_
 rintro _ ⟨X,rfl⟩
 have BE:=Lib.hid (over_below w.heap.size w X)
 clear oB
 generalize over w.heap.size w X=W9 at *
 go_wp2
 go_ret
 exact⟨by rw[HE.out];rfl,BE.out⟩
open Go.RowKit
set_option linter.unusedVariables false
set_option linter.unusedSimpArgs false
theorem iValidPlan_any (p:DPlan) (v3 v4 v5 v6 v7 v8 v9 v10 v11 v12:Value) (w:World) (h:PlanRd w.heap.size w p v3 v4 v5 v6 v7 v8 v9 v10 v11 v12) (hs:sizL p.tr≤1099511627776) (hk:p.ok) :
  Calls Tryz.prog 52 #[.agg #[.int .i64 p.terrain.step,.int .i64 p.terrain.width,.int .i64 p.terrain.height,v3,v4,v5,v6,v7,v8,v9,v10,v11,v12,.int .i64 p.day]] w fun e w'=>e=.returned (.bool (planB p))∧Below w.heap.size w w':=by
 have H:=Lib.hid h
 clear h
 have Z:=Lib.hid (PlanSz.of hs)
 obtain⟨a6,k6,e6,_,_,_⟩:=DSector.rd H.out.r6
 subst e6
 obtain⟨ap,cp,ep,_,_,_⟩:=Rd.intss H.out.r12
 subst ep
 have m0:(p.apart.length:Int)≤1099511627776:=by have:=Z.out.apart;omega
 have m1:(p.network.sectors.length:Int)≤1099511627776:=by have:=Z.out.sectors;omega
 have b0:=below_alloc w (.cells #[.int .i64 p.terrain.step,.int .i64 p.terrain.width,.int .i64 p.terrain.height,v3,v4,v5,.slice a6 p.network.sectors.length k6,v7,v8,v9,v10,v11,.slice ap p.apart.length cp,.int .i64 p.day] 53)
 have k0:=bkN w #[.int .i64 p.terrain.step,.int .i64 p.terrain.width,.int .i64 p.terrain.height,v3,v4,v5,.slice a6 p.network.sectors.length k6,v7,v8,v9,v10,v11,.slice ap p.apart.length cp,.int .i64 p.day] 53
 have z0:w.heap.size+1≤(w.alloc (.cells #[.int .i64 p.terrain.step,.int .i64 p.terrain.width,.int .i64 p.terrain.height,v3,v4,v5,.slice a6 p.network.sectors.length k6,v7,v8,v9,v10,v11,.slice ap p.apart.length cp,.int .i64 p.day] 53)).heap.size:=by simp
 generalize hW0:(w.alloc (.cells #[.int .i64 p.terrain.step,.int .i64 p.terrain.width,.int .i64 p.terrain.height,v3,v4,v5,.slice a6 p.network.sectors.length k6,v7,v8,v9,v10,v11,.slice ap p.apart.length cp,.int .i64 p.day] 53))=W0 at b0 k0 z0
 have HW0:=Lib.hid hW0
 clear hW0
 have B0:=Lib.hid b0
 have K0:=Lib.hid k0
 clear b0 k0
 have HD:Hid (∀ W:World,Below W0.heap.size W0 W→(W.cell? ⟨w.heap.size,0,none⟩=some (.int .i64 p.terrain.step)∧W.cell? ⟨w.heap.size,1,none⟩=some (.int .i64 p.terrain.width)∧W.cell? ⟨w.heap.size,2,none⟩=some (.int .i64 p.terrain.height)∧W.cell? ⟨w.heap.size,3,none⟩=some (v3)∧W.cell? ⟨w.heap.size,4,none⟩=some (v4)∧W.cell? ⟨w.heap.size,5,none⟩=some (v5)∧W.cell? ⟨w.heap.size,6,none⟩=some (.slice a6 p.network.sectors.length k6)∧W.cell? ⟨w.heap.size,7,none⟩=some (v7)∧W.cell? ⟨w.heap.size,8,none⟩=some (v8)∧W.cell? ⟨w.heap.size,9,none⟩=some (v9)∧W.cell? ⟨w.heap.size,10,none⟩=some (v10)∧W.cell? ⟨w.heap.size,11,none⟩=some (v11)∧W.cell? ⟨w.heap.size,12,none⟩=some (.slice ap p.apart.length cp)∧W.cell? ⟨w.heap.size,13,none⟩=some (.int .i64 p.day))):=fun W hW=>⟨bkC (bkB K0.out hW (by omega)) 0 rfl,bkC (bkB K0.out hW (by omega)) 1 rfl,bkC (bkB K0.out hW (by omega)) 2 rfl,bkC (bkB K0.out hW (by omega)) 3 rfl,bkC (bkB K0.out hW (by omega)) 4 rfl,bkC (bkB K0.out hW (by omega)) 5 rfl,bkC (bkB K0.out hW (by omega)) 6 rfl,bkC (bkB K0.out hW (by omega)) 7 rfl,bkC (bkB K0.out hW (by omega)) 8 rfl,bkC (bkB K0.out hW (by omega)) 9 rfl,bkC (bkB K0.out hW (by omega)) 10 rfl,bkC (bkB K0.out hW (by omega)) 11 rfl,bkC (bkB K0.out hW (by omega)) 12 rfl,bkC (bkB K0.out hW (by omega)) 13 rfl⟩
 have HP:Hid (∀ W:World,Below W0.heap.size W0 W→W.cell? ⟨w.heap.size,12,none⟩=some (.slice ap p.apart.length cp)):=fun W hW=>bkC (bkB K0.out hW (by omega)) 12 rfl
 have HH:Hid (∀ W:World,Below W0.heap.size W0 W→Below w.heap.size w W):=fun W hW=>B0.out.trans (hW.mono (by omega))
 have HB:Hid (Below W0.heap.size W0 W0):=Below.refl _ _
 have C0:Hid (∀ W:World,Below W0.heap.size W0 W→Calls Tryz.prog 107 #[.agg #[.int .i64 p.terrain.step,.int .i64 p.terrain.width,.int .i64 p.terrain.height,v3,v4]] W fun e w'=>e=.returned (.bool (terrB p.terrain))∧Below W.heap.size W w'):=fun W hW=>validTerrain_any p.terrain v3 v4 w.heap.size W (H.out.r3.below (HH.out W hW)) (H.out.r4.below (HH.out W hW)) (HH.out W hW).size Z.out.heights Z.out.clutter
 have C1:Hid (∀ W:World,Below W0.heap.size W0 W→Calls Tryz.prog 108 #[.agg #[v5,.slice a6 p.network.sectors.length k6,v7,v8]] W fun e w'=>e=.returned (.bool (netB p.network))∧Below W.heap.size W w'):=fun W hW=>validNetwork_any p.network v5 _ v7 v8 W ((H.out.r5.below (HH.out W hW)).mono (HH.out W hW).size) ((H.out.r6.below (HH.out W hW)).mono (HH.out W hW).size) ((H.out.r7.below (HH.out W hW)).mono (HH.out W hW).size) ((H.out.r8.below (HH.out W hW)).mono (HH.out W hW).size) Z.out.net hk.network
 have C2:Hid (∀ W:World,Below W0.heap.size W0 W→Calls Tryz.prog 109 #[v9] W fun e w'=>e=.returned (.bool (bandsB p.bands))∧Below W.heap.size W w'):=fun W hW=>iValidBands_any p.bands v9 w.heap.size W (H.out.r9.below (HH.out W hW)) (HH.out W hW).size hk.bands Z.out.bands
 have C3:Hid (∀ W:World,Below W0.heap.size W0 W→Calls Tryz.prog 110 #[v10] W fun e w'=>e=.returned (.bool (holdB p.licences))∧Below W.heap.size W w'):=fun W hW=>iValidHoldings_any p.licences v10 w.heap.size W (H.out.r10.below (HH.out W hW)) (HH.out W hW).size hk.licences Z.out.licences
 have C4:Hid (∀ W:World,Below W0.heap.size W0 W→Calls Tryz.prog 111 #[v11] W fun e w'=>e=.returned (.bool (protsB p.protected_))∧Below W.heap.size W w'):=fun W hW=>iValidProtected_any p.protected_ v11 w.heap.size W (H.out.r11.below (HH.out W hW)) (HH.out W hW).size hk.protected_ Z.out.prot
 have C5:Hid (∀ W:World,Below W0.heap.size W0 W→Calls Tryz.prog 112 #[.int .i64 p.day] W fun e w'=>e=.returned (.bool (inB p.day 0 99999))∧W=w'):=fun W hW=>dayOk_any p.day W
 by_cases h0:terrB p.terrain=true
 case neg =>
  replace h0:terrB p.terrain=false:=Bool.eq_false_iff.2 h0
  rw[h0] at C0
  have HE:Hid (planB p=false):=by show _=_;unfold planB;simp only[h0]<;>rfl
  go_enter Tryz.func52,Tryz.ntmps52
  go_upto_region 1 with (fail)
  rw[HW0.out]
  obtain⟨t0,t1,t2,t3,t4,t5,t6,t7,t8,t9,t10,t11,t12,t13⟩:=HD.out _ HB.out
  go_wp2_with (first|(go_at_call 107;with_reducible refine (C0.out _ HB.out).mono ?_;rintro e w2 ⟨rfl,hb2⟩;(try clear t0 t1 t2 t3 t4 t5 t6 t7 t8 t9 t10 t11 t12 t13);replace HB:=Lib.hid (HB.out.trans (hb2.mono HB.out.size));clear hb2;obtain⟨t0,t1,t2,t3,t4,t5,t6,t7,t8,t9,t10,t11,t12,t13⟩:=HD.out _ HB.out)|(go_at_call 108;with_reducible refine (C1.out _ HB.out).mono ?_;rintro e w2 ⟨rfl,hb2⟩;(try clear t0 t1 t2 t3 t4 t5 t6 t7 t8 t9 t10 t11 t12 t13);replace HB:=Lib.hid (HB.out.trans (hb2.mono HB.out.size));clear hb2;obtain⟨t0,t1,t2,t3,t4,t5,t6,t7,t8,t9,t10,t11,t12,t13⟩:=HD.out _ HB.out)|(go_at_call 109;with_reducible refine (C2.out _ HB.out).mono ?_;rintro e w2 ⟨rfl,hb2⟩;(try clear t0 t1 t2 t3 t4 t5 t6 t7 t8 t9 t10 t11 t12 t13);replace HB:=Lib.hid (HB.out.trans (hb2.mono HB.out.size));clear hb2;obtain⟨t0,t1,t2,t3,t4,t5,t6,t7,t8,t9,t10,t11,t12,t13⟩:=HD.out _ HB.out)|(go_at_call 110;with_reducible refine (C3.out _ HB.out).mono ?_;rintro e w2 ⟨rfl,hb2⟩;(try clear t0 t1 t2 t3 t4 t5 t6 t7 t8 t9 t10 t11 t12 t13);replace HB:=Lib.hid (HB.out.trans (hb2.mono HB.out.size));clear hb2;obtain⟨t0,t1,t2,t3,t4,t5,t6,t7,t8,t9,t10,t11,t12,t13⟩:=HD.out _ HB.out)|(go_at_call 111;with_reducible refine (C4.out _ HB.out).mono ?_;rintro e w2 ⟨rfl,hb2⟩;(try clear t0 t1 t2 t3 t4 t5 t6 t7 t8 t9 t10 t11 t12 t13);replace HB:=Lib.hid (HB.out.trans (hb2.mono HB.out.size));clear hb2;obtain⟨t0,t1,t2,t3,t4,t5,t6,t7,t8,t9,t10,t11,t12,t13⟩:=HD.out _ HB.out)|(go_at_call 112;with_reducible refine (C5.out _ HB.out).mono ?_;rintro e w1 ⟨rfl,rfl⟩))
  go_ret
  exact⟨by rw[HE.out];rfl,HH.out _ HB.out⟩
 rw[h0] at C0
 by_cases h1:netB p.network=true
 case neg =>
  replace h1:netB p.network=false:=Bool.eq_false_iff.2 h1
  rw[h1] at C1
  have HE:Hid (planB p=false):=by show _=_;unfold planB;simp only[h0,h1]<;>rfl
  go_enter Tryz.func52,Tryz.ntmps52
  go_upto_region 1 with (fail)
  rw[HW0.out]
  obtain⟨t0,t1,t2,t3,t4,t5,t6,t7,t8,t9,t10,t11,t12,t13⟩:=HD.out _ HB.out
  go_wp2_with (first|(go_at_call 107;with_reducible refine (C0.out _ HB.out).mono ?_;rintro e w2 ⟨rfl,hb2⟩;(try clear t0 t1 t2 t3 t4 t5 t6 t7 t8 t9 t10 t11 t12 t13);replace HB:=Lib.hid (HB.out.trans (hb2.mono HB.out.size));clear hb2;obtain⟨t0,t1,t2,t3,t4,t5,t6,t7,t8,t9,t10,t11,t12,t13⟩:=HD.out _ HB.out)|(go_at_call 108;with_reducible refine (C1.out _ HB.out).mono ?_;rintro e w2 ⟨rfl,hb2⟩;(try clear t0 t1 t2 t3 t4 t5 t6 t7 t8 t9 t10 t11 t12 t13);replace HB:=Lib.hid (HB.out.trans (hb2.mono HB.out.size));clear hb2;obtain⟨t0,t1,t2,t3,t4,t5,t6,t7,t8,t9,t10,t11,t12,t13⟩:=HD.out _ HB.out)|(go_at_call 109;with_reducible refine (C2.out _ HB.out).mono ?_;rintro e w2 ⟨rfl,hb2⟩;(try clear t0 t1 t2 t3 t4 t5 t6 t7 t8 t9 t10 t11 t12 t13);replace HB:=Lib.hid (HB.out.trans (hb2.mono HB.out.size));clear hb2;obtain⟨t0,t1,t2,t3,t4,t5,t6,t7,t8,t9,t10,t11,t12,t13⟩:=HD.out _ HB.out)|(go_at_call 110;with_reducible refine (C3.out _ HB.out).mono ?_;rintro e w2 ⟨rfl,hb2⟩;(try clear t0 t1 t2 t3 t4 t5 t6 t7 t8 t9 t10 t11 t12 t13);replace HB:=Lib.hid (HB.out.trans (hb2.mono HB.out.size));clear hb2;obtain⟨t0,t1,t2,t3,t4,t5,t6,t7,t8,t9,t10,t11,t12,t13⟩:=HD.out _ HB.out)|(go_at_call 111;with_reducible refine (C4.out _ HB.out).mono ?_;rintro e w2 ⟨rfl,hb2⟩;(try clear t0 t1 t2 t3 t4 t5 t6 t7 t8 t9 t10 t11 t12 t13);replace HB:=Lib.hid (HB.out.trans (hb2.mono HB.out.size));clear hb2;obtain⟨t0,t1,t2,t3,t4,t5,t6,t7,t8,t9,t10,t11,t12,t13⟩:=HD.out _ HB.out)|(go_at_call 112;with_reducible refine (C5.out _ HB.out).mono ?_;rintro e w1 ⟨rfl,rfl⟩))
  go_ret
  exact⟨by rw[HE.out];rfl,HH.out _ HB.out⟩
 rw[h1] at C1
 by_cases h2:bandsB p.bands=true
 case neg =>
  replace h2:bandsB p.bands=false:=Bool.eq_false_iff.2 h2
  rw[h2] at C2
  have HE:Hid (planB p=false):=by show _=_;unfold planB;simp only[h0,h1,h2]<;>rfl
  go_enter Tryz.func52,Tryz.ntmps52
  go_upto_region 1 with (fail)
  rw[HW0.out]
  obtain⟨t0,t1,t2,t3,t4,t5,t6,t7,t8,t9,t10,t11,t12,t13⟩:=HD.out _ HB.out
  go_wp2_with (first|(go_at_call 107;with_reducible refine (C0.out _ HB.out).mono ?_;rintro e w2 ⟨rfl,hb2⟩;(try clear t0 t1 t2 t3 t4 t5 t6 t7 t8 t9 t10 t11 t12 t13);replace HB:=Lib.hid (HB.out.trans (hb2.mono HB.out.size));clear hb2;obtain⟨t0,t1,t2,t3,t4,t5,t6,t7,t8,t9,t10,t11,t12,t13⟩:=HD.out _ HB.out)|(go_at_call 108;with_reducible refine (C1.out _ HB.out).mono ?_;rintro e w2 ⟨rfl,hb2⟩;(try clear t0 t1 t2 t3 t4 t5 t6 t7 t8 t9 t10 t11 t12 t13);replace HB:=Lib.hid (HB.out.trans (hb2.mono HB.out.size));clear hb2;obtain⟨t0,t1,t2,t3,t4,t5,t6,t7,t8,t9,t10,t11,t12,t13⟩:=HD.out _ HB.out)|(go_at_call 109;with_reducible refine (C2.out _ HB.out).mono ?_;rintro e w2 ⟨rfl,hb2⟩;(try clear t0 t1 t2 t3 t4 t5 t6 t7 t8 t9 t10 t11 t12 t13);replace HB:=Lib.hid (HB.out.trans (hb2.mono HB.out.size));clear hb2;obtain⟨t0,t1,t2,t3,t4,t5,t6,t7,t8,t9,t10,t11,t12,t13⟩:=HD.out _ HB.out)|(go_at_call 110;with_reducible refine (C3.out _ HB.out).mono ?_;rintro e w2 ⟨rfl,hb2⟩;(try clear t0 t1 t2 t3 t4 t5 t6 t7 t8 t9 t10 t11 t12 t13);replace HB:=Lib.hid (HB.out.trans (hb2.mono HB.out.size));clear hb2;obtain⟨t0,t1,t2,t3,t4,t5,t6,t7,t8,t9,t10,t11,t12,t13⟩:=HD.out _ HB.out)|(go_at_call 111;with_reducible refine (C4.out _ HB.out).mono ?_;rintro e w2 ⟨rfl,hb2⟩;(try clear t0 t1 t2 t3 t4 t5 t6 t7 t8 t9 t10 t11 t12 t13);replace HB:=Lib.hid (HB.out.trans (hb2.mono HB.out.size));clear hb2;obtain⟨t0,t1,t2,t3,t4,t5,t6,t7,t8,t9,t10,t11,t12,t13⟩:=HD.out _ HB.out)|(go_at_call 112;with_reducible refine (C5.out _ HB.out).mono ?_;rintro e w1 ⟨rfl,rfl⟩))
  go_ret
  exact⟨by rw[HE.out];rfl,HH.out _ HB.out⟩
 rw[h2] at C2
 by_cases h3:holdB p.licences=true
 case neg =>
  replace h3:holdB p.licences=false:=Bool.eq_false_iff.2 h3
  rw[h3] at C3
  have HE:Hid (planB p=false):=by show _=_;unfold planB;simp only[h0,h1,h2,h3]<;>rfl
  go_enter Tryz.func52,Tryz.ntmps52
  go_upto_region 1 with (fail)
  rw[HW0.out]
  obtain⟨t0,t1,t2,t3,t4,t5,t6,t7,t8,t9,t10,t11,t12,t13⟩:=HD.out _ HB.out
  go_wp2_with (first|(go_at_call 107;with_reducible refine (C0.out _ HB.out).mono ?_;rintro e w2 ⟨rfl,hb2⟩;(try clear t0 t1 t2 t3 t4 t5 t6 t7 t8 t9 t10 t11 t12 t13);replace HB:=Lib.hid (HB.out.trans (hb2.mono HB.out.size));clear hb2;obtain⟨t0,t1,t2,t3,t4,t5,t6,t7,t8,t9,t10,t11,t12,t13⟩:=HD.out _ HB.out)|(go_at_call 108;with_reducible refine (C1.out _ HB.out).mono ?_;rintro e w2 ⟨rfl,hb2⟩;(try clear t0 t1 t2 t3 t4 t5 t6 t7 t8 t9 t10 t11 t12 t13);replace HB:=Lib.hid (HB.out.trans (hb2.mono HB.out.size));clear hb2;obtain⟨t0,t1,t2,t3,t4,t5,t6,t7,t8,t9,t10,t11,t12,t13⟩:=HD.out _ HB.out)|(go_at_call 109;with_reducible refine (C2.out _ HB.out).mono ?_;rintro e w2 ⟨rfl,hb2⟩;(try clear t0 t1 t2 t3 t4 t5 t6 t7 t8 t9 t10 t11 t12 t13);replace HB:=Lib.hid (HB.out.trans (hb2.mono HB.out.size));clear hb2;obtain⟨t0,t1,t2,t3,t4,t5,t6,t7,t8,t9,t10,t11,t12,t13⟩:=HD.out _ HB.out)|(go_at_call 110;with_reducible refine (C3.out _ HB.out).mono ?_;rintro e w2 ⟨rfl,hb2⟩;(try clear t0 t1 t2 t3 t4 t5 t6 t7 t8 t9 t10 t11 t12 t13);replace HB:=Lib.hid (HB.out.trans (hb2.mono HB.out.size));clear hb2;obtain⟨t0,t1,t2,t3,t4,t5,t6,t7,t8,t9,t10,t11,t12,t13⟩:=HD.out _ HB.out)|(go_at_call 111;with_reducible refine (C4.out _ HB.out).mono ?_;rintro e w2 ⟨rfl,hb2⟩;(try clear t0 t1 t2 t3 t4 t5 t6 t7 t8 t9 t10 t11 t12 t13);replace HB:=Lib.hid (HB.out.trans (hb2.mono HB.out.size));clear hb2;obtain⟨t0,t1,t2,t3,t4,t5,t6,t7,t8,t9,t10,t11,t12,t13⟩:=HD.out _ HB.out)|(go_at_call 112;with_reducible refine (C5.out _ HB.out).mono ?_;rintro e w1 ⟨rfl,rfl⟩))
  go_ret
  exact⟨by rw[HE.out];rfl,HH.out _ HB.out⟩
 rw[h3] at C3
 by_cases h4:protsB p.protected_=true
 case neg =>
  replace h4:protsB p.protected_=false:=Bool.eq_false_iff.2 h4
  rw[h4] at C4
  have HE:Hid (planB p=false):=by show _=_;unfold planB;simp only[h0,h1,h2,h3,h4]<;>rfl
  go_enter Tryz.func52,Tryz.ntmps52
  go_upto_region 1 with (fail)
  rw[HW0.out]
  obtain⟨t0,t1,t2,t3,t4,t5,t6,t7,t8,t9,t10,t11,t12,t13⟩:=HD.out _ HB.out
  go_wp2_with (first|(go_at_call 107;with_reducible refine (C0.out _ HB.out).mono ?_;rintro e w2 ⟨rfl,hb2⟩;(try clear t0 t1 t2 t3 t4 t5 t6 t7 t8 t9 t10 t11 t12 t13);replace HB:=Lib.hid (HB.out.trans (hb2.mono HB.out.size));clear hb2;obtain⟨t0,t1,t2,t3,t4,t5,t6,t7,t8,t9,t10,t11,t12,t13⟩:=HD.out _ HB.out)|(go_at_call 108;with_reducible refine (C1.out _ HB.out).mono ?_;rintro e w2 ⟨rfl,hb2⟩;(try clear t0 t1 t2 t3 t4 t5 t6 t7 t8 t9 t10 t11 t12 t13);replace HB:=Lib.hid (HB.out.trans (hb2.mono HB.out.size));clear hb2;obtain⟨t0,t1,t2,t3,t4,t5,t6,t7,t8,t9,t10,t11,t12,t13⟩:=HD.out _ HB.out)|(go_at_call 109;with_reducible refine (C2.out _ HB.out).mono ?_;rintro e w2 ⟨rfl,hb2⟩;(try clear t0 t1 t2 t3 t4 t5 t6 t7 t8 t9 t10 t11 t12 t13);replace HB:=Lib.hid (HB.out.trans (hb2.mono HB.out.size));clear hb2;obtain⟨t0,t1,t2,t3,t4,t5,t6,t7,t8,t9,t10,t11,t12,t13⟩:=HD.out _ HB.out)|(go_at_call 110;with_reducible refine (C3.out _ HB.out).mono ?_;rintro e w2 ⟨rfl,hb2⟩;(try clear t0 t1 t2 t3 t4 t5 t6 t7 t8 t9 t10 t11 t12 t13);replace HB:=Lib.hid (HB.out.trans (hb2.mono HB.out.size));clear hb2;obtain⟨t0,t1,t2,t3,t4,t5,t6,t7,t8,t9,t10,t11,t12,t13⟩:=HD.out _ HB.out)|(go_at_call 111;with_reducible refine (C4.out _ HB.out).mono ?_;rintro e w2 ⟨rfl,hb2⟩;(try clear t0 t1 t2 t3 t4 t5 t6 t7 t8 t9 t10 t11 t12 t13);replace HB:=Lib.hid (HB.out.trans (hb2.mono HB.out.size));clear hb2;obtain⟨t0,t1,t2,t3,t4,t5,t6,t7,t8,t9,t10,t11,t12,t13⟩:=HD.out _ HB.out)|(go_at_call 112;with_reducible refine (C5.out _ HB.out).mono ?_;rintro e w1 ⟨rfl,rfl⟩))
  go_ret
  exact⟨by rw[HE.out];rfl,HH.out _ HB.out⟩
 rw[h4] at C4
 by_cases h5:inB p.day 0 99999=true
 case neg =>
  replace h5:inB p.day 0 99999=false:=Bool.eq_false_iff.2 h5
  rw[h5] at C5
  have HE:Hid (planB p=false):=by show _=_;unfold planB;simp only[h0,h1,h2,h3,h4,h5]<;>rfl
  go_enter Tryz.func52,Tryz.ntmps52
  go_upto_region 1 with (fail)
  rw[HW0.out]
  obtain⟨t0,t1,t2,t3,t4,t5,t6,t7,t8,t9,t10,t11,t12,t13⟩:=HD.out _ HB.out
  go_wp2_with (first|(go_at_call 107;with_reducible refine (C0.out _ HB.out).mono ?_;rintro e w2 ⟨rfl,hb2⟩;(try clear t0 t1 t2 t3 t4 t5 t6 t7 t8 t9 t10 t11 t12 t13);replace HB:=Lib.hid (HB.out.trans (hb2.mono HB.out.size));clear hb2;obtain⟨t0,t1,t2,t3,t4,t5,t6,t7,t8,t9,t10,t11,t12,t13⟩:=HD.out _ HB.out)|(go_at_call 108;with_reducible refine (C1.out _ HB.out).mono ?_;rintro e w2 ⟨rfl,hb2⟩;(try clear t0 t1 t2 t3 t4 t5 t6 t7 t8 t9 t10 t11 t12 t13);replace HB:=Lib.hid (HB.out.trans (hb2.mono HB.out.size));clear hb2;obtain⟨t0,t1,t2,t3,t4,t5,t6,t7,t8,t9,t10,t11,t12,t13⟩:=HD.out _ HB.out)|(go_at_call 109;with_reducible refine (C2.out _ HB.out).mono ?_;rintro e w2 ⟨rfl,hb2⟩;(try clear t0 t1 t2 t3 t4 t5 t6 t7 t8 t9 t10 t11 t12 t13);replace HB:=Lib.hid (HB.out.trans (hb2.mono HB.out.size));clear hb2;obtain⟨t0,t1,t2,t3,t4,t5,t6,t7,t8,t9,t10,t11,t12,t13⟩:=HD.out _ HB.out)|(go_at_call 110;with_reducible refine (C3.out _ HB.out).mono ?_;rintro e w2 ⟨rfl,hb2⟩;(try clear t0 t1 t2 t3 t4 t5 t6 t7 t8 t9 t10 t11 t12 t13);replace HB:=Lib.hid (HB.out.trans (hb2.mono HB.out.size));clear hb2;obtain⟨t0,t1,t2,t3,t4,t5,t6,t7,t8,t9,t10,t11,t12,t13⟩:=HD.out _ HB.out)|(go_at_call 111;with_reducible refine (C4.out _ HB.out).mono ?_;rintro e w2 ⟨rfl,hb2⟩;(try clear t0 t1 t2 t3 t4 t5 t6 t7 t8 t9 t10 t11 t12 t13);replace HB:=Lib.hid (HB.out.trans (hb2.mono HB.out.size));clear hb2;obtain⟨t0,t1,t2,t3,t4,t5,t6,t7,t8,t9,t10,t11,t12,t13⟩:=HD.out _ HB.out)|(go_at_call 112;with_reducible refine (C5.out _ HB.out).mono ?_;rintro e w1 ⟨rfl,rfl⟩))
  go_ret
  exact⟨by rw[HE.out];rfl,HH.out _ HB.out⟩
 rw[h5] at C5
 by_cases h6:p.apart.length=p.network.sectors.length
 case neg =>
  have hap:apS p.apart p.network.sectors.length=false:=by unfold apS;rw[decide_eq_false h6];rfl
  have hne:((p.apart.length:Int) != (p.network.sectors.length:Int))=true:=by simp;omega
  have HE:Hid (planB p=false):=by show _=_;unfold planB;simp only[h0,h1,h2,h3,h4,h5,hap]<;>rfl
  go_enter Tryz.func52,Tryz.ntmps52
  go_upto_region 1 with (fail)
  rw[HW0.out]
  obtain⟨t0,t1,t2,t3,t4,t5,t6,t7,t8,t9,t10,t11,t12,t13⟩:=HD.out _ HB.out
  go_wp2_with (first|(go_at_call 107;with_reducible refine (C0.out _ HB.out).mono ?_;rintro e w2 ⟨rfl,hb2⟩;(try clear t0 t1 t2 t3 t4 t5 t6 t7 t8 t9 t10 t11 t12 t13);replace HB:=Lib.hid (HB.out.trans (hb2.mono HB.out.size));clear hb2;obtain⟨t0,t1,t2,t3,t4,t5,t6,t7,t8,t9,t10,t11,t12,t13⟩:=HD.out _ HB.out)|(go_at_call 108;with_reducible refine (C1.out _ HB.out).mono ?_;rintro e w2 ⟨rfl,hb2⟩;(try clear t0 t1 t2 t3 t4 t5 t6 t7 t8 t9 t10 t11 t12 t13);replace HB:=Lib.hid (HB.out.trans (hb2.mono HB.out.size));clear hb2;obtain⟨t0,t1,t2,t3,t4,t5,t6,t7,t8,t9,t10,t11,t12,t13⟩:=HD.out _ HB.out)|(go_at_call 109;with_reducible refine (C2.out _ HB.out).mono ?_;rintro e w2 ⟨rfl,hb2⟩;(try clear t0 t1 t2 t3 t4 t5 t6 t7 t8 t9 t10 t11 t12 t13);replace HB:=Lib.hid (HB.out.trans (hb2.mono HB.out.size));clear hb2;obtain⟨t0,t1,t2,t3,t4,t5,t6,t7,t8,t9,t10,t11,t12,t13⟩:=HD.out _ HB.out)|(go_at_call 110;with_reducible refine (C3.out _ HB.out).mono ?_;rintro e w2 ⟨rfl,hb2⟩;(try clear t0 t1 t2 t3 t4 t5 t6 t7 t8 t9 t10 t11 t12 t13);replace HB:=Lib.hid (HB.out.trans (hb2.mono HB.out.size));clear hb2;obtain⟨t0,t1,t2,t3,t4,t5,t6,t7,t8,t9,t10,t11,t12,t13⟩:=HD.out _ HB.out)|(go_at_call 111;with_reducible refine (C4.out _ HB.out).mono ?_;rintro e w2 ⟨rfl,hb2⟩;(try clear t0 t1 t2 t3 t4 t5 t6 t7 t8 t9 t10 t11 t12 t13);replace HB:=Lib.hid (HB.out.trans (hb2.mono HB.out.size));clear hb2;obtain⟨t0,t1,t2,t3,t4,t5,t6,t7,t8,t9,t10,t11,t12,t13⟩:=HD.out _ HB.out)|(go_at_call 112;with_reducible refine (C5.out _ HB.out).mono ?_;rintro e w1 ⟨rfl,rfl⟩))
  go_ret
  exact⟨by rw[HE.out];rfl,HH.out _ HB.out⟩
 have hne:((p.apart.length:Int) != (p.network.sectors.length:Int))=false:=by simp;omega
 have HE:Hid (planB p=(List.range p.apart.length).all (apAtI p.apart p.apart.length)):=by
  show _=_
  unfold planB
  rw[← apI_eq]
  unfold apI
  simp only[h0,h1,h2,h3,h4,h5,decide_eq_true h6,Bool.true_and]
 have hrows:=Z.out.rows
 have HRD:=Lib.hid H.out.r12
 clear h6
 go_enter Tryz.func52,Tryz.ntmps52
 go_upto_region 1 with (fail)
 rw[HW0.out]
 obtain⟨t0,t1,t2,t3,t4,t5,t6,t7,t8,t9,t10,t11,t12,t13⟩:=HD.out _ HB.out
 go_wp2_with (first|(go_at_call 107;with_reducible refine (C0.out _ HB.out).mono ?_;rintro e w2 ⟨rfl,hb2⟩;(try clear t0 t1 t2 t3 t4 t5 t6 t7 t8 t9 t10 t11 t12 t13);replace HB:=Lib.hid (HB.out.trans (hb2.mono HB.out.size));clear hb2;obtain⟨t0,t1,t2,t3,t4,t5,t6,t7,t8,t9,t10,t11,t12,t13⟩:=HD.out _ HB.out)|(go_at_call 108;with_reducible refine (C1.out _ HB.out).mono ?_;rintro e w2 ⟨rfl,hb2⟩;(try clear t0 t1 t2 t3 t4 t5 t6 t7 t8 t9 t10 t11 t12 t13);replace HB:=Lib.hid (HB.out.trans (hb2.mono HB.out.size));clear hb2;obtain⟨t0,t1,t2,t3,t4,t5,t6,t7,t8,t9,t10,t11,t12,t13⟩:=HD.out _ HB.out)|(go_at_call 109;with_reducible refine (C2.out _ HB.out).mono ?_;rintro e w2 ⟨rfl,hb2⟩;(try clear t0 t1 t2 t3 t4 t5 t6 t7 t8 t9 t10 t11 t12 t13);replace HB:=Lib.hid (HB.out.trans (hb2.mono HB.out.size));clear hb2;obtain⟨t0,t1,t2,t3,t4,t5,t6,t7,t8,t9,t10,t11,t12,t13⟩:=HD.out _ HB.out)|(go_at_call 110;with_reducible refine (C3.out _ HB.out).mono ?_;rintro e w2 ⟨rfl,hb2⟩;(try clear t0 t1 t2 t3 t4 t5 t6 t7 t8 t9 t10 t11 t12 t13);replace HB:=Lib.hid (HB.out.trans (hb2.mono HB.out.size));clear hb2;obtain⟨t0,t1,t2,t3,t4,t5,t6,t7,t8,t9,t10,t11,t12,t13⟩:=HD.out _ HB.out)|(go_at_call 111;with_reducible refine (C4.out _ HB.out).mono ?_;rintro e w2 ⟨rfl,hb2⟩;(try clear t0 t1 t2 t3 t4 t5 t6 t7 t8 t9 t10 t11 t12 t13);replace HB:=Lib.hid (HB.out.trans (hb2.mono HB.out.size));clear hb2;obtain⟨t0,t1,t2,t3,t4,t5,t6,t7,t8,t9,t10,t11,t12,t13⟩:=HD.out _ HB.out)|(go_at_call 112;with_reducible refine (C5.out _ HB.out).mono ?_;rintro e w1 ⟨rfl,rfl⟩))
 clear hne
 have HBW:=Lib.hid HB.out
 clear t0 t1 t2 t3 t4 t5 t6 t7 t8 t9 t10 t11 t12 t13
 go_loopw [53] (fun i wr=>∃ (k:Nat),k≤p.apart.length∧i=.int .i64 k∧(∀ j,j<k→apAtI p.apart p.apart.length j=true)∧Below W0.heap.size W0 wr) (fun i wr=>p.apart.length-(intOf i).toNat)
 case atStart=>exact⟨0,Nat.zero_le _,rfl,fun j hj=>absurd hj (by omega),HBW.out⟩
 case round =>
  obtain⟨k,hk1,rfl,hno,hb⟩:=hrel
  have HN:=Lib.hid hno
  have HBR:=Lib.hid hb
  have zb:=hb.size
  clear hno hb
  by_cases hlt:k<p.apart.length
  ·obtain⟨b,off,ea,hbl,hat⟩:=HRD.out.rows (by omega)
   subst ea
   have HAT:=Lib.hid hat
   obtain⟨ak,ck,sk,hrd,hck⟩:=hat k hlt
   have HRK:=Lib.hid hrd
   have hrk:=hrows k hlt
   clear hat hrd
   have hbw:=HH.out _ HBR.out
   have hzw:=hbw.size
   rw[← bat hbw b _ hbl] at sk
   have t12:=HP.out _ HBR.out
   have i1:(0:Int)≤(k:Int):=by omega
   have i3:(k:Int)<(p.apart.length:Int):=by omega
   have HA:Hid (apAtI p.apart p.apart.length k=(decide ((rowI p.apart k).length=p.apart.length)&&(((rowI p.apart k).all fun x=>inB x 0 100)&&((gi (rowI p.apart k) k == 0)&&(List.range k).all (fun q=>gi (rowI p.apart k) q == gi (rowI p.apart q) k))))):=rfl
   have CA:Hid (∀ W:World,Below wr.heap.size wr W→Calls Tryz.prog 113 #[.slice ak (rowI p.apart k).length ck,.int .i64 0,.int .i64 100] W fun e w'=>e=.returned (.bool ((rowI p.apart k).all fun x=>inB x 0 100))∧Below W.heap.size W w'):=fun W hW=>allWithin_any _ _ _ _ w.heap.size W (HRK.out.below (hbw.trans (hW.mono hzw))) (Nat.le_trans hzw hW.size) hrk
   have HF:Hid (apAtI p.apart p.apart.length k=false→planB p=false):=fun e=>by rw[HE.out];exact allR_false hlt e
   by_cases a0:(rowI p.apart k).length=p.apart.length
   case neg =>
    have hn1:(((rowI p.apart k).length:Int) != (p.apart.length:Int))=true:=by simp;omega
    have HQ:Hid (planB p=false):=HF.out (by rw[HA.out,decide_eq_false a0];rfl)
    clear hck hbw
    go_wp2
    go_ret
    exact⟨by rw[HQ.out];rfl,HH.out _ HBR.out⟩
   have hn1:(((rowI p.apart k).length:Int) != (p.apart.length:Int))=false:=by simp;omega
   have i4:(k:Int)<((rowI p.apart k).length:Int):=by omega
   have HA0:=Lib.hid a0
   clear a0
   obtain⟨bk,ok,ea,hbk,hcz⟩:=hck (by omega)
   subst ea
   have HTK:=Lib.hid hcz
   have tk:=hcz k (by omega)
   clear hck hcz
   rw[← bat hbw bk _ (by omega)] at tk
   have hbw2:=Lib.hid hbw
   clear hbw
   have hbkr:bk<wr.heap.size:=by omega
   by_cases a1:((rowI p.apart k).all fun x=>inB x 0 100)=true
   case neg =>
    replace a1:((rowI p.apart k).all fun x=>inB x 0 100)=false:=Bool.eq_false_iff.2 a1
    have HQ:Hid (planB p=false):=HF.out (by rw[HA.out,a1];simp)
    rw[a1] at CA
    go_wp2_with (go_at_call 113;with_reducible refine (CA.out _ (Below.refl _ _)).mono ?_;rintro e w3 ⟨rfl,hb3⟩)
    go_ret
    exact⟨by rw[HQ.out];rfl,HH.out _ (HBR.out.trans (hb3.mono zb))⟩
   have HA1:=Lib.hid a1
   rw[a1] at CA
   have hbo:b<wr.heap.size:=by omega
   have ARM:Hid (∀ W:World,Below wr.heap.size wr W→(W.cell? ⟨bk,ok+k,none⟩=some (.int .i64 (gi (rowI p.apart k) k))∧W.cell? ⟨w.heap.size,12,none⟩=some (.slice (some ⟨b,off,none⟩) p.apart.length cp))):=fun W hW=>⟨(bat hW bk _ hbkr).trans tk,(bat hW w.heap.size _ (by omega)).trans t12⟩
   by_cases a2:(gi (rowI p.apart k) k == 0)=true
   case neg =>
    replace a2:(gi (rowI p.apart k) k == 0)=false:=Bool.eq_false_iff.2 a2
    have hn2:(gi (rowI p.apart k) k != 0)=true:=by rw[bne,a2];rfl
    have HQ:Hid (planB p=false):=HF.out (by rw[HA.out,a2];simp)
    generalize gi (rowI p.apart k) k=x at *
    clear a1
    go_wp2_with (go_at_call 113;with_reducible refine (CA.out _ (Below.refl _ _)).mono ?_;rintro e w3 ⟨rfl,hb3⟩;clear tk t12 sk;obtain⟨tk,t12⟩:=ARM.out _ hb3)
    go_ret
    exact⟨by rw[HQ.out];rfl,HH.out _ (HBR.out.trans (hb3.mono zb))⟩
   have hn2:(gi (rowI p.apart k) k != 0)=false:=by rw[bne,a2];rfl
   have HX:Hid ((List.range k).all (fun q=>gi (rowI p.apart k) q == gi (rowI p.apart q) k)=true→apAtI p.apart p.apart.length k=true):=fun e=>by rw[HA.out,decide_eq_true HA0.out,HA1.out,a2,e];rfl
   have HY:Hid ((List.range k).all (fun q=>gi (rowI p.apart k) q == gi (rowI p.apart q) k)=false→planB p=false):=fun e=>HF.out (by rw[HA.out,e];simp)
   clear a2 a1
   have ARM2:Hid (∀ W:World,Below wr.heap.size wr W→∃ x:Int,(x != 0)=false∧W.cell? ⟨bk,ok+k,none⟩=some (.int .i64 x)∧W.cell? ⟨w.heap.size,12,none⟩=some (.slice (some ⟨b,off,none⟩) p.apart.length cp)):=fun W hW=>⟨_,hn2,ARM.out W hW⟩
   obtain⟨x0,hx0,tk0,t120⟩:=ARM2.out _ (Below.refl _ _)
   clear tk t12 hn2
   go_wp2_with (go_at_call 113;with_reducible refine (CA.out _ (Below.refl _ _)).mono ?_;rintro e w3 ⟨rfl,hb3⟩;clear tk0 t120 sk;have HB3:=Lib.hid hb3;obtain⟨x1,hx1,tk,t12⟩:=ARM2.out _ hb3)
   have HBS:=Lib.hid (HBR.out.trans (HB3.out.mono zb))
   clear tk t12 hx0 hn1 hx1 hb3
   go_loopw [77] (fun i wr=>∃ (q:Nat),q≤k∧i=.int .i64 q∧(∀ j,j<q→(gi (rowI p.apart k) j == gi (rowI p.apart j) k)=true)∧Below W0.heap.size W0 wr) (fun i wr=>k-(intOf i).toNat)
   case atStart=>exact⟨0,Nat.zero_le _,rfl,fun j hj=>absurd hj (by omega),HBS.out⟩
   case round =>
    obtain⟨q,hq,rfl,hno2,hb2⟩:=hrel
    have HN2:=Lib.hid hno2
    have HB2:=Lib.hid hb2
    have zb2:=hb2.size
    clear hno2 hb2
    by_cases hqk:q<k
    ·have hqm:q<p.apart.length:=by omega
     have hbw3:=HH.out _ HB2.out
     have hzw3:=hbw3.size
     obtain⟨aq,cq,sq,_,hcq⟩:=HAT.out q hqm
     have hlq:(rowI p.apart q).length=p.apart.length:=by
      have:=HN.out q hqk
      unfold apAtI at this
      rw[Bool.and_eq_true] at this
      exact of_decide_eq_true this.1
     obtain⟨bq,oq,eaq,hbq,hcq2⟩:=hcq (by omega)
     subst eaq
     have uq:=hcq2 k (by omega)
     have tq:=HTK.out q (by omega)
     clear hcq hcq2
     rw[← bat hbw3 b _ hbl] at sq
     rw[← bat hbw3 bk _ (by omega)] at tq
     rw[← bat hbw3 bq _ (by omega)] at uq
     have t12:=HP.out _ HB2.out
     have j0:(0:Int)≤(q:Int):=by omega
     have j1:(q:Int)<(p.apart.length:Int):=by omega
     have j2:(q:Int)<((rowI p.apart k).length:Int):=by omega
     have j3:(k:Int)<((rowI p.apart q).length:Int):=by omega
     have j4:(q:Int)<(k:Int):=by omega
     clear hlq
     have HC:Hid ((gi (rowI p.apart k) q == gi (rowI p.apart q) k)=(gi (rowI p.apart k) q == gi (rowI p.apart q) k)):=rfl
     have HCT:Hid ((gi (rowI p.apart k) q == gi (rowI p.apart q) k)=false→planB p=false):=fun e=>HY.out (allR_false hqk e)
     have HCS:Hid ((gi (rowI p.apart k) q == gi (rowI p.apart q) k)=true→∀ j,j<q+1→(gi (rowI p.apart k) j == gi (rowI p.apart j) k)=true):=fun e=>upTo_succ (p:=fun j=>gi (rowI p.apart k) j == gi (rowI p.apart j) k) HN2.out e
     clear HC
     generalize gi (rowI p.apart k) q=x at *
     generalize gi (rowI p.apart q) k=y at *
     clear hbw3
     go_wp2
     have o1:=overC (w0:=wr) (show b<wr.heap.size by omega)
     have o2:=overC (w0:=wr) (show bk<wr.heap.size by omega)
     have o3:=overC (w0:=wr) (show bq<wr.heap.size by omega)
     have o4:=overC (w0:=wr) (show w.heap.size<wr.heap.size by omega)
     by_cases e1:(x == y)=true
     case neg =>
      replace e1:(x == y)=false:=Bool.eq_false_iff.2 e1
      have en:(x != y)=true:=by rw[bne,e1];rfl
      have HQ:Hid (planB p=false):=HCT.out e1
      refine wp_region_over wr.heap.size wr (Below.refl _ _) (by kernel_rfl) (by kernel_rfl) ?_
      repeat (go_big_quiet_step (fail))
      refine wpQuiet_nil ?_
      rintro _ ⟨X,rfl⟩
      have hX:=over_below wr.heap.size wr X
      clear o1 o2 o3 o4
      generalize over wr.heap.size wr X=w4 at *
      have BG:=Lib.hid (HB2.out.trans (hX.mono (by omega)))
      clear hX
      go_wp2
      go_ret
      exact⟨by rw[HQ.out];rfl,HH.out _ BG.out⟩
     have en:(x != y)=false:=by rw[bne,e1];rfl
     refine wp_region_over wr.heap.size wr (Below.refl _ _) (by kernel_rfl) (by kernel_rfl) ?_
     repeat (go_big_quiet_step (fail))
     refine wpQuiet_nil ?_
     rintro _ ⟨X,rfl⟩
     have hX:=over_below wr.heap.size wr X
     clear o1 o2 o3 o4
     generalize over wr.heap.size wr X=w4 at *
     have BG:=Lib.hid (HB2.out.trans (hX.mono (by omega)))
     clear hX
     go_wp2
     go_roundw
     case rel=>exact⟨q+1,by omega,by go_num,HCS.out e1,BG.out⟩
     case measure=>simp[intOf];omega
    ·obtain rfl:q=k:=by omega
     have HG:Hid (apAtI p.apart p.apart.length q=true):=HX.out (allR_true HN2.out)
     have j4:(q:Int)<1099511627776:=by omega
     go_wp2
     go_roundw
     case rel=>exact⟨q+1,by omega,by go_num,upTo_succ HN.out HG.out,HB2.out⟩
     case measure=>simp[intOf];omega
  ·obtain rfl:k=p.apart.length:=by omega
   have HQ:Hid (planB p=true):=by show _=_;rw[HE.out];exact allR_true HN.out
   go_wp2
   go_ret
   exact⟨by rw[HQ.out];rfl,HH.out _ HBR.out⟩
end Go.Proofs.YtjfmkmcefnidcaaGreat
