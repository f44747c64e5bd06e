/- Contracts of the law helpers mark and held over plans. Conditions: bounded lengths. -/
import Derived.Test.YtjfmkmcefnidcaaGreatHPlan
namespace Go.Proofs.YtjfmkmcefnidcaaGreat
set_option maxHeartbeats 8000000
set_option maxRecDepth 100000
open Go.RowKit
set_option linter.unusedVariables false
theorem markI_Terrain (x:DTerrain) (v3 v4:Value) (f3 f4:List Nat) (k0 l3 m3 l4 m4:Nat) (K:Int) (w:World) (hK:K=(k0:Int)) (o3:Own w (intsT x.heights) v3 f3) (i3:In l3 m3 f3) (n3:m3≤w.heap.size) (o4:Own w (intsT x.clutter) v4 f4) (i4:In l4 m4 f4) (n4:m4≤w.heap.size) (d3_4:∀ y ∈ f3,y ∉ f4) (hs:sizL x.tr≤1099511627776) (hk0:k0+cnt (intsT x.heights)+cnt (intsT x.clutter)≤1099511627776) (hk1:0<k0) :
  Calls Tryz.prog 61 #[.agg #[.int .i64 x.step,.int .i64 x.width,.int .i64 x.height,v3,v4],.int .i64 K] w fun e w'=>e=.returned (.int .i64 ((k0+cnt (intsT x.heights)+cnt (intsT x.clutter):Nat):Int))∧Own w' (mkT (intsT x.heights) (k0)) v3 f3∧Own w' (mkT (intsT x.clutter) (k0+cnt (intsT x.heights))) v4 f4∧Chg (f3++f4) w w':=by
 subst hK
 exact mark_Terrain x v3 v4 f3 f4 k0 l3 m3 l4 m4 w o3 i3 n3 o4 i4 n4 d3_4 hs hk0 hk1
theorem markI_Network (x:DNetwork) (v0 v1 v2 v3:Value) (f0 f1 f2 f3:List Nat) (k0 l0 m0 l1 m1 l2 m2 l3 m3:Nat) (K:Int) (w:World) (hK:K=(k0:Int)) (o0:Own w (DSite.sT x.sites) v0 f0) (i0:In l0 m0 f0) (n0:m0≤w.heap.size) (o1:Own w (DSector.sT x.sectors) v1 f1) (i1:In l1 m1 f1) (n1:m1≤w.heap.size) (o2:Own w (DAntenna.sT x.antennas) v2 f2) (i2:In l2 m2 f2) (n2:m2≤w.heap.size) (o3:Own w (DRadio.sT x.radios) v3 f3) (i3:In l3 m3 f3) (n3:m3≤w.heap.size) (d0_1:∀ y ∈ f0,y ∉ f1) (d0_2:∀ y ∈ f0,y ∉ f2) (d0_3:∀ y ∈ f0,y ∉ f3) (d1_2:∀ y ∈ f1,y ∉ f2) (d1_3:∀ y ∈ f1,y ∉ f3) (d2_3:∀ y ∈ f2,y ∉ f3) (hs:sizL x.tr≤1099511627776) (hk0:k0+cnt (DSite.sT x.sites)+cnt (DSector.sT x.sectors)+cnt (DAntenna.sT x.antennas)+cnt (DRadio.sT x.radios)≤1099511627776) (hk1:0<k0) :
  Calls Tryz.prog 62 #[.agg #[v0,v1,v2,v3],.int .i64 K] w fun e w'=>e=.returned (.int .i64 ((k0+cnt (DSite.sT x.sites)+cnt (DSector.sT x.sectors)+cnt (DAntenna.sT x.antennas)+cnt (DRadio.sT x.radios):Nat):Int))∧Own w' (mkT (DSite.sT x.sites) (k0)) v0 f0∧Own w' (mkT (DSector.sT x.sectors) (k0+cnt (DSite.sT x.sites))) v1 f1∧Own w' (mkT (DAntenna.sT x.antennas) (k0+cnt (DSite.sT x.sites)+cnt (DSector.sT x.sectors))) v2 f2∧Own w' (mkT (DRadio.sT x.radios) (k0+cnt (DSite.sT x.sites)+cnt (DSector.sT x.sectors)+cnt (DAntenna.sT x.antennas))) v3 f3∧Chg (f0++f1++f2++f3) w w':=by
 subst hK
 exact mark_Network x v0 v1 v2 v3 f0 f1 f2 f3 k0 l0 m0 l1 m1 l2 m2 l3 m3 w o0 i0 n0 o1 i1 n1 o2 i2 n2 o3 i3 n3 d0_1 d0_2 d0_3 d1_2 d1_3 d2_3 hs hk0 hk1
theorem mark_Plan (x:DPlan) (v3 v4 v5 v6 v7 v8 v9 v10 v11 v12:Value) (f3 f4 f5 f6 f7 f8 f9 f10 f11 f12:List Nat) (k0 l3 m3 l4 m4 l5 m5 l6 m6 l7 m7 l8 m8 l9 m9 l10 m10 l11 m11 l12 m12:Nat) (w:World) (o3:Own w (intsT x.terrain.heights) v3 f3) (i3:In l3 m3 f3) (n3:m3≤w.heap.size) (o4:Own w (intsT x.terrain.clutter) v4 f4) (i4:In l4 m4 f4) (n4:m4≤w.heap.size) (o5:Own w (DSite.sT x.network.sites) v5 f5) (i5:In l5 m5 f5) (n5:m5≤w.heap.size) (o6:Own w (DSector.sT x.network.sectors) v6 f6) (i6:In l6 m6 f6) (n6:m6≤w.heap.size) (o7:Own w (DAntenna.sT x.network.antennas) v7 f7) (i7:In l7 m7 f7) (n7:m7≤w.heap.size) (o8:Own w (DRadio.sT x.network.radios) v8 f8) (i8:In l8 m8 f8) (n8:m8≤w.heap.size) (o9:Own w (DBand.sT x.bands) v9 f9) (i9:In l9 m9 f9) (n9:m9≤w.heap.size) (o10:Own w (DLicence.sT x.licences) v10 f10) (i10:In l10 m10 f10) (n10:m10≤w.heap.size) (o11:Own w (DProtected.sT x.protected_) v11 f11) (i11:In l11 m11 f11) (n11:m11≤w.heap.size) (o12:Own w (intssT x.apart) v12 f12) (i12:In l12 m12 f12) (n12:m12≤w.heap.size) (d3_4:∀ y ∈ f3,y ∉ f4) (d3_5:∀ y ∈ f3,y ∉ f5) (d3_6:∀ y ∈ f3,y ∉ f6) (d3_7:∀ y ∈ f3,y ∉ f7) (d3_8:∀ y ∈ f3,y ∉ f8) (d3_9:∀ y ∈ f3,y ∉ f9) (d3_10:∀ y ∈ f3,y ∉ f10) (d3_11:∀ y ∈ f3,y ∉ f11) (d3_12:∀ y ∈ f3,y ∉ f12) (d4_5:∀ y ∈ f4,y ∉ f5) (d4_6:∀ y ∈ f4,y ∉ f6) (d4_7:∀ y ∈ f4,y ∉ f7) (d4_8:∀ y ∈ f4,y ∉ f8) (d4_9:∀ y ∈ f4,y ∉ f9) (d4_10:∀ y ∈ f4,y ∉ f10) (d4_11:∀ y ∈ f4,y ∉ f11) (d4_12:∀ y ∈ f4,y ∉ f12) (d5_6:∀ y ∈ f5,y ∉ f6) (d5_7:∀ y ∈ f5,y ∉ f7) (d5_8:∀ y ∈ f5,y ∉ f8) (d5_9:∀ y ∈ f5,y ∉ f9) (d5_10:∀ y ∈ f5,y ∉ f10) (d5_11:∀ y ∈ f5,y ∉ f11) (d5_12:∀ y ∈ f5,y ∉ f12) (d6_7:∀ y ∈ f6,y ∉ f7) (d6_8:∀ y ∈ f6,y ∉ f8) (d6_9:∀ y ∈ f6,y ∉ f9) (d6_10:∀ y ∈ f6,y ∉ f10) (d6_11:∀ y ∈ f6,y ∉ f11) (d6_12:∀ y ∈ f6,y ∉ f12) (d7_8:∀ y ∈ f7,y ∉ f8) (d7_9:∀ y ∈ f7,y ∉ f9) (d7_10:∀ y ∈ f7,y ∉ f10) (d7_11:∀ y ∈ f7,y ∉ f11) (d7_12:∀ y ∈ f7,y ∉ f12) (d8_9:∀ y ∈ f8,y ∉ f9) (d8_10:∀ y ∈ f8,y ∉ f10) (d8_11:∀ y ∈ f8,y ∉ f11) (d8_12:∀ y ∈ f8,y ∉ f12) (d9_10:∀ y ∈ f9,y ∉ f10) (d9_11:∀ y ∈ f9,y ∉ f11) (d9_12:∀ y ∈ f9,y ∉ f12) (d10_11:∀ y ∈ f10,y ∉ f11) (d10_12:∀ y ∈ f10,y ∉ f12) (d11_12:∀ y ∈ f11,y ∉ f12) (hs:sizL x.tr≤1099511627776) (hk0:k0+cnt (intsT x.terrain.heights)+cnt (intsT x.terrain.clutter)+cnt (DSite.sT x.network.sites)+cnt (DSector.sT x.network.sectors)+cnt (DAntenna.sT x.network.antennas)+cnt (DRadio.sT x.network.radios)+cnt (DBand.sT x.bands)+cnt (DLicence.sT x.licences)+cnt (DProtected.sT x.protected_)+cnt (intssT x.apart)≤1099511627776) (hk1:0<k0) :
  Calls Tryz.prog 17 #[.agg #[.int .i64 x.terrain.step,.int .i64 x.terrain.width,.int .i64 x.terrain.height,v3,v4,v5,v6,v7,v8,v9,v10,v11,v12,.int .i64 x.day],.int .i64 k0] w fun e w'=>e=.returned (.int .i64 ((k0+cnt (intsT x.terrain.heights)+cnt (intsT x.terrain.clutter)+cnt (DSite.sT x.network.sites)+cnt (DSector.sT x.network.sectors)+cnt (DAntenna.sT x.network.antennas)+cnt (DRadio.sT x.network.radios)+cnt (DBand.sT x.bands)+cnt (DLicence.sT x.licences)+cnt (DProtected.sT x.protected_)+cnt (intssT x.apart):Nat):Int))∧Own w' (mkT (intsT x.terrain.heights) (k0)) v3 f3∧Own w' (mkT (intsT x.terrain.clutter) (k0+cnt (intsT x.terrain.heights))) v4 f4∧Own w' (mkT (DSite.sT x.network.sites) (k0+cnt (intsT x.terrain.heights)+cnt (intsT x.terrain.clutter))) v5 f5∧Own w' (mkT (DSector.sT x.network.sectors) (k0+cnt (intsT x.terrain.heights)+cnt (intsT x.terrain.clutter)+cnt (DSite.sT x.network.sites))) v6 f6∧Own w' (mkT (DAntenna.sT x.network.antennas) (k0+cnt (intsT x.terrain.heights)+cnt (intsT x.terrain.clutter)+cnt (DSite.sT x.network.sites)+cnt (DSector.sT x.network.sectors))) v7 f7∧Own w' (mkT (DRadio.sT x.network.radios) (k0+cnt (intsT x.terrain.heights)+cnt (intsT x.terrain.clutter)+cnt (DSite.sT x.network.sites)+cnt (DSector.sT x.network.sectors)+cnt (DAntenna.sT x.network.antennas))) v8 f8∧Own w' (mkT (DBand.sT x.bands) (k0+cnt (intsT x.terrain.heights)+cnt (intsT x.terrain.clutter)+cnt (DSite.sT x.network.sites)+cnt (DSector.sT x.network.sectors)+cnt (DAntenna.sT x.network.antennas)+cnt (DRadio.sT x.network.radios))) v9 f9∧Own w' (mkT (DLicence.sT x.licences) (k0+cnt (intsT x.terrain.heights)+cnt (intsT x.terrain.clutter)+cnt (DSite.sT x.network.sites)+cnt (DSector.sT x.network.sectors)+cnt (DAntenna.sT x.network.antennas)+cnt (DRadio.sT x.network.radios)+cnt (DBand.sT x.bands))) v10 f10∧Own w' (mkT (DProtected.sT x.protected_) (k0+cnt (intsT x.terrain.heights)+cnt (intsT x.terrain.clutter)+cnt (DSite.sT x.network.sites)+cnt (DSector.sT x.network.sectors)+cnt (DAntenna.sT x.network.antennas)+cnt (DRadio.sT x.network.radios)+cnt (DBand.sT x.bands)+cnt (DLicence.sT x.licences))) v11 f11∧Own w' (mkT (intssT x.apart) (k0+cnt (intsT x.terrain.heights)+cnt (intsT x.terrain.clutter)+cnt (DSite.sT x.network.sites)+cnt (DSector.sT x.network.sectors)+cnt (DAntenna.sT x.network.antennas)+cnt (DRadio.sT x.network.radios)+cnt (DBand.sT x.bands)+cnt (DLicence.sT x.licences)+cnt (DProtected.sT x.protected_))) v12 f12∧Chg (f3++f4++f5++f6++f7++f8++f9++f10++f11++f12) w w':=by
 have hsum:=DPlan.siz_tr x
 have b0:Below w.heap.size w (w.alloc (.cells #[.int .i64 x.terrain.step,.int .i64 x.terrain.width,.int .i64 x.terrain.height,v3,v4,v5,v6,v7,v8,v9,v10,v11,v12,.int .i64 x.day] 53)):=(Below.refl _ _).alloc (Nat.le_refl _) _
 have C0:=Lib.hid (Chg.of_below (fp:=(f3++f4++f5++f6++f7++f8++f9++f10++f11++f12)) b0)
 have y0:w.heap.size<(w.alloc (.cells #[.int .i64 x.terrain.step,.int .i64 x.terrain.width,.int .i64 x.terrain.height,v3,v4,v5,v6,v7,v8,v9,v10,v11,v12,.int .i64 x.day] 53)).heap.size:=by simp
 have O0_3:=Lib.hid (o3.below i3 n3 b0)
 have O0_4:=Lib.hid (o4.below i4 n4 b0)
 have O0_5:=Lib.hid (o5.below i5 n5 b0)
 have O0_6:=Lib.hid (o6.below i6 n6 b0)
 have O0_7:=Lib.hid (o7.below i7 n7 b0)
 have O0_8:=Lib.hid (o8.below i8 n8 b0)
 have O0_9:=Lib.hid (o9.below i9 n9 b0)
 have O0_10:=Lib.hid (o10.below i10 n10 b0)
 have O0_11:=Lib.hid (o11.below i11 n11 b0)
 have O0_12:=Lib.hid (o12.below i12 n12 b0)
 clear b0 o3 o4 o5 o6 o7 o8 o9 o10 o11 o12
 go_enter Tryz.func17,Tryz.ntmps17
 go_wp2_with fail
 refine (markI_Terrain x.terrain v3 v4 f3 f4 (k0) l3 m3 l4 m4 _ _ (by first|rfl|simp only[Int.natCast_add]) O0_3.out i3 (by omega) O0_4.out i4 (by omega) d3_4 (by omega) (by omega) (by omega)).mono ?_
 rintro e w1 ⟨rfl,p3,p4,c1⟩
 have y1:w.heap.size<w1.heap.size:=by have:=c1.size;omega
 have nb1:w.heap.size ∉ (f3++f4):=by
  intro e
  simp only[List.mem_append] at e
  rcases e with e|e
  ·have:=(i3 _ e).2;omega
  ·have:=(i4 _ e).2;omega
 have hk1c:∀ q,w1.cell? ⟨w.heap.size,q,none⟩=_:=fun q=>World.cell?_of_block (a:=⟨w.heap.size,q,none⟩) (c1.block w.heap.size y0 nb1)
 have mm1:∀ y ∈ (f3++f4),y ∈ (f3++f4++f5++f6++f7++f8++f9++f10++f11++f12):=by
  intro y e
  simp only[List.mem_append] at e
  rcases e with e|e
  ·simp[e]
  ·simp[e]
 have C1:=Lib.hid (C0.out.trans (c1.mono mm1))
 have O1_3:=Lib.hid p3
 have O1_4:=Lib.hid p4
 have O1_5:=Lib.hid (O0_5.out.chg i5 (by omega) c1 (fun y hy e=>by
  simp only[List.mem_append] at e
  rcases e with e|e
  ·exact d3_5 y e hy
  ·exact d4_5 y e hy))
 have O1_6:=Lib.hid (O0_6.out.chg i6 (by omega) c1 (fun y hy e=>by
  simp only[List.mem_append] at e
  rcases e with e|e
  ·exact d3_6 y e hy
  ·exact d4_6 y e hy))
 have O1_7:=Lib.hid (O0_7.out.chg i7 (by omega) c1 (fun y hy e=>by
  simp only[List.mem_append] at e
  rcases e with e|e
  ·exact d3_7 y e hy
  ·exact d4_7 y e hy))
 have O1_8:=Lib.hid (O0_8.out.chg i8 (by omega) c1 (fun y hy e=>by
  simp only[List.mem_append] at e
  rcases e with e|e
  ·exact d3_8 y e hy
  ·exact d4_8 y e hy))
 have O1_9:=Lib.hid (O0_9.out.chg i9 (by omega) c1 (fun y hy e=>by
  simp only[List.mem_append] at e
  rcases e with e|e
  ·exact d3_9 y e hy
  ·exact d4_9 y e hy))
 have O1_10:=Lib.hid (O0_10.out.chg i10 (by omega) c1 (fun y hy e=>by
  simp only[List.mem_append] at e
  rcases e with e|e
  ·exact d3_10 y e hy
  ·exact d4_10 y e hy))
 have O1_11:=Lib.hid (O0_11.out.chg i11 (by omega) c1 (fun y hy e=>by
  simp only[List.mem_append] at e
  rcases e with e|e
  ·exact d3_11 y e hy
  ·exact d4_11 y e hy))
 have O1_12:=Lib.hid (O0_12.out.chg i12 (by omega) c1 (fun y hy e=>by
  simp only[List.mem_append] at e
  rcases e with e|e
  ·exact d3_12 y e hy
  ·exact d4_12 y e hy))
 clear nb1 mm1 c1 p3 p4 O0_3 O0_4 O0_5 O0_6 O0_7 O0_8 O0_9 O0_10 O0_11 O0_12 C0
 go_wp2_with fail
 refine (markI_Network x.network v5 v6 v7 v8 f5 f6 f7 f8 (k0+cnt (intsT x.terrain.heights)+cnt (intsT x.terrain.clutter)) l5 m5 l6 m6 l7 m7 l8 m8 _ _ (by first|rfl|simp only[Int.natCast_add]) O1_5.out i5 (by omega) O1_6.out i6 (by omega) O1_7.out i7 (by omega) O1_8.out i8 (by omega) d5_6 d5_7 d5_8 d6_7 d6_8 d7_8 (by omega) (by omega) (by omega)).mono ?_
 rintro e w2 ⟨rfl,p5,p6,p7,p8,c2⟩
 have y2:w.heap.size<w2.heap.size:=by have:=c2.size;omega
 have nb2:w.heap.size ∉ (f5++f6++f7++f8):=by
  intro e
  simp only[List.mem_append,or_assoc] at e
  rcases e with e|e|e|e
  ·have:=(i5 _ e).2;omega
  ·have:=(i6 _ e).2;omega
  ·have:=(i7 _ e).2;omega
  ·have:=(i8 _ e).2;omega
 have hk2c:∀ q,w2.cell? ⟨w.heap.size,q,none⟩=_:=fun q=>World.cell?_of_block (a:=⟨w.heap.size,q,none⟩) (c2.block w.heap.size y1 nb2)
 have mm2:∀ y ∈ (f5++f6++f7++f8),y ∈ (f3++f4++f5++f6++f7++f8++f9++f10++f11++f12):=by
  intro y e
  simp only[List.mem_append,or_assoc] at e
  rcases e with e|e|e|e
  ·simp[e]
  ·simp[e]
  ·simp[e]
  ·simp[e]
 have C2:=Lib.hid (C1.out.trans (c2.mono mm2))
 have O2_3:=Lib.hid (O1_3.out.chg i3 (by omega) c2 (fun y hy e=>by
  simp only[List.mem_append,or_assoc] at e
  rcases e with e|e|e|e
  ·exact d3_5 y hy e
  ·exact d3_6 y hy e
  ·exact d3_7 y hy e
  ·exact d3_8 y hy e))
 have O2_4:=Lib.hid (O1_4.out.chg i4 (by omega) c2 (fun y hy e=>by
  simp only[List.mem_append,or_assoc] at e
  rcases e with e|e|e|e
  ·exact d4_5 y hy e
  ·exact d4_6 y hy e
  ·exact d4_7 y hy e
  ·exact d4_8 y hy e))
 have O2_5:=Lib.hid p5
 have O2_6:=Lib.hid p6
 have O2_7:=Lib.hid p7
 have O2_8:=Lib.hid p8
 have O2_9:=Lib.hid (O1_9.out.chg i9 (by omega) c2 (fun y hy e=>by
  simp only[List.mem_append,or_assoc] at e
  rcases e with e|e|e|e
  ·exact d5_9 y e hy
  ·exact d6_9 y e hy
  ·exact d7_9 y e hy
  ·exact d8_9 y e hy))
 have O2_10:=Lib.hid (O1_10.out.chg i10 (by omega) c2 (fun y hy e=>by
  simp only[List.mem_append,or_assoc] at e
  rcases e with e|e|e|e
  ·exact d5_10 y e hy
  ·exact d6_10 y e hy
  ·exact d7_10 y e hy
  ·exact d8_10 y e hy))
 have O2_11:=Lib.hid (O1_11.out.chg i11 (by omega) c2 (fun y hy e=>by
  simp only[List.mem_append,or_assoc] at e
  rcases e with e|e|e|e
  ·exact d5_11 y e hy
  ·exact d6_11 y e hy
  ·exact d7_11 y e hy
  ·exact d8_11 y e hy))
 have O2_12:=Lib.hid (O1_12.out.chg i12 (by omega) c2 (fun y hy e=>by
  simp only[List.mem_append,or_assoc] at e
  rcases e with e|e|e|e
  ·exact d5_12 y e hy
  ·exact d6_12 y e hy
  ·exact d7_12 y e hy
  ·exact d8_12 y e hy))
 clear nb2 mm2 c2 p5 p6 p7 p8 O1_3 O1_4 O1_5 O1_6 O1_7 O1_8 O1_9 O1_10 O1_11 O1_12 C1
 go_wp2_with fail
 refine (markI_BandS x.bands v9 f9 (k0+cnt (intsT x.terrain.heights)+cnt (intsT x.terrain.clutter)+cnt (DSite.sT x.network.sites)+cnt (DSector.sT x.network.sectors)+cnt (DAntenna.sT x.network.antennas)+cnt (DRadio.sT x.network.radios)) l9 _ _ O2_9.out (i9.mono (Nat.le_refl _) (by omega)) (by omega) (by first|rfl|simp only[Int.natCast_add]) (by omega) (by omega)).mono ?_
 rintro e w3 ⟨rfl,p9,c3⟩
 have y3:w.heap.size<w3.heap.size:=by have:=c3.size;omega
 have nb3:w.heap.size ∉ (f9):=by
  intro e
  have:=(i9 _ e).2;omega
 have hk3c:∀ q,w3.cell? ⟨w.heap.size,q,none⟩=_:=fun q=>World.cell?_of_block (a:=⟨w.heap.size,q,none⟩) (c3.block w.heap.size y2 nb3)
 have mm3:∀ y ∈ (f9),y ∈ (f3++f4++f5++f6++f7++f8++f9++f10++f11++f12):=by
  intro y e
  simp[e]
 have C3:=Lib.hid (C2.out.trans (c3.mono mm3))
 have O3_3:=Lib.hid (O2_3.out.chg i3 (by omega) c3 (fun y hy e=>by
  exact d3_9 y hy e))
 have O3_4:=Lib.hid (O2_4.out.chg i4 (by omega) c3 (fun y hy e=>by
  exact d4_9 y hy e))
 have O3_5:=Lib.hid (O2_5.out.chg i5 (by omega) c3 (fun y hy e=>by
  exact d5_9 y hy e))
 have O3_6:=Lib.hid (O2_6.out.chg i6 (by omega) c3 (fun y hy e=>by
  exact d6_9 y hy e))
 have O3_7:=Lib.hid (O2_7.out.chg i7 (by omega) c3 (fun y hy e=>by
  exact d7_9 y hy e))
 have O3_8:=Lib.hid (O2_8.out.chg i8 (by omega) c3 (fun y hy e=>by
  exact d8_9 y hy e))
 have O3_9:=Lib.hid p9
 have O3_10:=Lib.hid (O2_10.out.chg i10 (by omega) c3 (fun y hy e=>by
  exact d9_10 y e hy))
 have O3_11:=Lib.hid (O2_11.out.chg i11 (by omega) c3 (fun y hy e=>by
  exact d9_11 y e hy))
 have O3_12:=Lib.hid (O2_12.out.chg i12 (by omega) c3 (fun y hy e=>by
  exact d9_12 y e hy))
 clear nb3 mm3 c3 p9 O2_3 O2_4 O2_5 O2_6 O2_7 O2_8 O2_9 O2_10 O2_11 O2_12 C2
 go_wp2_with fail
 refine (markI_LicenceS x.licences v10 f10 (k0+cnt (intsT x.terrain.heights)+cnt (intsT x.terrain.clutter)+cnt (DSite.sT x.network.sites)+cnt (DSector.sT x.network.sectors)+cnt (DAntenna.sT x.network.antennas)+cnt (DRadio.sT x.network.radios)+cnt (DBand.sT x.bands)) l10 _ _ O3_10.out (i10.mono (Nat.le_refl _) (by omega)) (by omega) (by first|rfl|simp only[Int.natCast_add]) (by omega) (by omega)).mono ?_
 rintro e w4 ⟨rfl,p10,c4⟩
 have y4:w.heap.size<w4.heap.size:=by have:=c4.size;omega
 have nb4:w.heap.size ∉ (f10):=by
  intro e
  have:=(i10 _ e).2;omega
 have hk4c:∀ q,w4.cell? ⟨w.heap.size,q,none⟩=_:=fun q=>World.cell?_of_block (a:=⟨w.heap.size,q,none⟩) (c4.block w.heap.size y3 nb4)
 have mm4:∀ y ∈ (f10),y ∈ (f3++f4++f5++f6++f7++f8++f9++f10++f11++f12):=by
  intro y e
  simp[e]
 have C4:=Lib.hid (C3.out.trans (c4.mono mm4))
 have O4_3:=Lib.hid (O3_3.out.chg i3 (by omega) c4 (fun y hy e=>by
  exact d3_10 y hy e))
 have O4_4:=Lib.hid (O3_4.out.chg i4 (by omega) c4 (fun y hy e=>by
  exact d4_10 y hy e))
 have O4_5:=Lib.hid (O3_5.out.chg i5 (by omega) c4 (fun y hy e=>by
  exact d5_10 y hy e))
 have O4_6:=Lib.hid (O3_6.out.chg i6 (by omega) c4 (fun y hy e=>by
  exact d6_10 y hy e))
 have O4_7:=Lib.hid (O3_7.out.chg i7 (by omega) c4 (fun y hy e=>by
  exact d7_10 y hy e))
 have O4_8:=Lib.hid (O3_8.out.chg i8 (by omega) c4 (fun y hy e=>by
  exact d8_10 y hy e))
 have O4_9:=Lib.hid (O3_9.out.chg i9 (by omega) c4 (fun y hy e=>by
  exact d9_10 y hy e))
 have O4_10:=Lib.hid p10
 have O4_11:=Lib.hid (O3_11.out.chg i11 (by omega) c4 (fun y hy e=>by
  exact d10_11 y e hy))
 have O4_12:=Lib.hid (O3_12.out.chg i12 (by omega) c4 (fun y hy e=>by
  exact d10_12 y e hy))
 clear nb4 mm4 c4 p10 O3_3 O3_4 O3_5 O3_6 O3_7 O3_8 O3_9 O3_10 O3_11 O3_12 C3
 go_wp2_with fail
 refine (markI_ProtectedS x.protected_ v11 f11 (k0+cnt (intsT x.terrain.heights)+cnt (intsT x.terrain.clutter)+cnt (DSite.sT x.network.sites)+cnt (DSector.sT x.network.sectors)+cnt (DAntenna.sT x.network.antennas)+cnt (DRadio.sT x.network.radios)+cnt (DBand.sT x.bands)+cnt (DLicence.sT x.licences)) l11 _ _ O4_11.out (i11.mono (Nat.le_refl _) (by omega)) (by omega) (by first|rfl|simp only[Int.natCast_add]) (by omega) (by omega)).mono ?_
 rintro e w5 ⟨rfl,p11,c5⟩
 have y5:w.heap.size<w5.heap.size:=by have:=c5.size;omega
 have nb5:w.heap.size ∉ (f11):=by
  intro e
  have:=(i11 _ e).2;omega
 have hk5c:∀ q,w5.cell? ⟨w.heap.size,q,none⟩=_:=fun q=>World.cell?_of_block (a:=⟨w.heap.size,q,none⟩) (c5.block w.heap.size y4 nb5)
 have mm5:∀ y ∈ (f11),y ∈ (f3++f4++f5++f6++f7++f8++f9++f10++f11++f12):=by
  intro y e
  simp[e]
 have C5:=Lib.hid (C4.out.trans (c5.mono mm5))
 have O5_3:=Lib.hid (O4_3.out.chg i3 (by omega) c5 (fun y hy e=>by
  exact d3_11 y hy e))
 have O5_4:=Lib.hid (O4_4.out.chg i4 (by omega) c5 (fun y hy e=>by
  exact d4_11 y hy e))
 have O5_5:=Lib.hid (O4_5.out.chg i5 (by omega) c5 (fun y hy e=>by
  exact d5_11 y hy e))
 have O5_6:=Lib.hid (O4_6.out.chg i6 (by omega) c5 (fun y hy e=>by
  exact d6_11 y hy e))
 have O5_7:=Lib.hid (O4_7.out.chg i7 (by omega) c5 (fun y hy e=>by
  exact d7_11 y hy e))
 have O5_8:=Lib.hid (O4_8.out.chg i8 (by omega) c5 (fun y hy e=>by
  exact d8_11 y hy e))
 have O5_9:=Lib.hid (O4_9.out.chg i9 (by omega) c5 (fun y hy e=>by
  exact d9_11 y hy e))
 have O5_10:=Lib.hid (O4_10.out.chg i10 (by omega) c5 (fun y hy e=>by
  exact d10_11 y hy e))
 have O5_11:=Lib.hid p11
 have O5_12:=Lib.hid (O4_12.out.chg i12 (by omega) c5 (fun y hy e=>by
  exact d11_12 y e hy))
 clear nb5 mm5 c5 p11 O4_3 O4_4 O4_5 O4_6 O4_7 O4_8 O4_9 O4_10 O4_11 O4_12 C4
 go_wp2_with fail
 refine (markI_Int64SS x.apart v12 f12 (k0+cnt (intsT x.terrain.heights)+cnt (intsT x.terrain.clutter)+cnt (DSite.sT x.network.sites)+cnt (DSector.sT x.network.sectors)+cnt (DAntenna.sT x.network.antennas)+cnt (DRadio.sT x.network.radios)+cnt (DBand.sT x.bands)+cnt (DLicence.sT x.licences)+cnt (DProtected.sT x.protected_)) l12 _ _ O5_12.out (i12.mono (Nat.le_refl _) (by omega)) (by omega) (by first|rfl|simp only[Int.natCast_add]) (by omega) (by omega)).mono ?_
 rintro e w6 ⟨rfl,p12,c6⟩
 have y6:w.heap.size<w6.heap.size:=by have:=c6.size;omega
 have nb6:w.heap.size ∉ (f12):=by
  intro e
  have:=(i12 _ e).2;omega
 have hk6c:∀ q,w6.cell? ⟨w.heap.size,q,none⟩=_:=fun q=>World.cell?_of_block (a:=⟨w.heap.size,q,none⟩) (c6.block w.heap.size y5 nb6)
 have mm6:∀ y ∈ (f12),y ∈ (f3++f4++f5++f6++f7++f8++f9++f10++f11++f12):=by
  intro y e
  simp[e]
 have C6:=Lib.hid (C5.out.trans (c6.mono mm6))
 have O6_3:=Lib.hid (O5_3.out.chg i3 (by omega) c6 (fun y hy e=>by
  exact d3_12 y hy e))
 have O6_4:=Lib.hid (O5_4.out.chg i4 (by omega) c6 (fun y hy e=>by
  exact d4_12 y hy e))
 have O6_5:=Lib.hid (O5_5.out.chg i5 (by omega) c6 (fun y hy e=>by
  exact d5_12 y hy e))
 have O6_6:=Lib.hid (O5_6.out.chg i6 (by omega) c6 (fun y hy e=>by
  exact d6_12 y hy e))
 have O6_7:=Lib.hid (O5_7.out.chg i7 (by omega) c6 (fun y hy e=>by
  exact d7_12 y hy e))
 have O6_8:=Lib.hid (O5_8.out.chg i8 (by omega) c6 (fun y hy e=>by
  exact d8_12 y hy e))
 have O6_9:=Lib.hid (O5_9.out.chg i9 (by omega) c6 (fun y hy e=>by
  exact d9_12 y hy e))
 have O6_10:=Lib.hid (O5_10.out.chg i10 (by omega) c6 (fun y hy e=>by
  exact d10_12 y hy e))
 have O6_11:=Lib.hid (O5_11.out.chg i11 (by omega) c6 (fun y hy e=>by
  exact d11_12 y hy e))
 have O6_12:=Lib.hid p12
 clear nb6 mm6 c6 p12 O5_3 O5_4 O5_5 O5_6 O5_7 O5_8 O5_9 O5_10 O5_11 O5_12 C5
 go_wp2
 go_ret
 exact⟨ret_int (by simp only[Int.natCast_add]),O6_3.out,O6_4.out,O6_5.out,O6_6.out,O6_7.out,O6_8.out,O6_9.out,O6_10.out,O6_11.out,O6_12.out,C6.out⟩
theorem markI_Plan (x:DPlan) (v3 v4 v5 v6 v7 v8 v9 v10 v11 v12:Value) (f3 f4 f5 f6 f7 f8 f9 f10 f11 f12:List Nat) (k0 l3 m3 l4 m4 l5 m5 l6 m6 l7 m7 l8 m8 l9 m9 l10 m10 l11 m11 l12 m12:Nat) (K:Int) (w:World) (hK:K=(k0:Int)) (o3:Own w (intsT x.terrain.heights) v3 f3) (i3:In l3 m3 f3) (n3:m3≤w.heap.size) (o4:Own w (intsT x.terrain.clutter) v4 f4) (i4:In l4 m4 f4) (n4:m4≤w.heap.size) (o5:Own w (DSite.sT x.network.sites) v5 f5) (i5:In l5 m5 f5) (n5:m5≤w.heap.size) (o6:Own w (DSector.sT x.network.sectors) v6 f6) (i6:In l6 m6 f6) (n6:m6≤w.heap.size) (o7:Own w (DAntenna.sT x.network.antennas) v7 f7) (i7:In l7 m7 f7) (n7:m7≤w.heap.size) (o8:Own w (DRadio.sT x.network.radios) v8 f8) (i8:In l8 m8 f8) (n8:m8≤w.heap.size) (o9:Own w (DBand.sT x.bands) v9 f9) (i9:In l9 m9 f9) (n9:m9≤w.heap.size) (o10:Own w (DLicence.sT x.licences) v10 f10) (i10:In l10 m10 f10) (n10:m10≤w.heap.size) (o11:Own w (DProtected.sT x.protected_) v11 f11) (i11:In l11 m11 f11) (n11:m11≤w.heap.size) (o12:Own w (intssT x.apart) v12 f12) (i12:In l12 m12 f12) (n12:m12≤w.heap.size) (d3_4:∀ y ∈ f3,y ∉ f4) (d3_5:∀ y ∈ f3,y ∉ f5) (d3_6:∀ y ∈ f3,y ∉ f6) (d3_7:∀ y ∈ f3,y ∉ f7) (d3_8:∀ y ∈ f3,y ∉ f8) (d3_9:∀ y ∈ f3,y ∉ f9) (d3_10:∀ y ∈ f3,y ∉ f10) (d3_11:∀ y ∈ f3,y ∉ f11) (d3_12:∀ y ∈ f3,y ∉ f12) (d4_5:∀ y ∈ f4,y ∉ f5) (d4_6:∀ y ∈ f4,y ∉ f6) (d4_7:∀ y ∈ f4,y ∉ f7) (d4_8:∀ y ∈ f4,y ∉ f8) (d4_9:∀ y ∈ f4,y ∉ f9) (d4_10:∀ y ∈ f4,y ∉ f10) (d4_11:∀ y ∈ f4,y ∉ f11) (d4_12:∀ y ∈ f4,y ∉ f12) (d5_6:∀ y ∈ f5,y ∉ f6) (d5_7:∀ y ∈ f5,y ∉ f7) (d5_8:∀ y ∈ f5,y ∉ f8) (d5_9:∀ y ∈ f5,y ∉ f9) (d5_10:∀ y ∈ f5,y ∉ f10) (d5_11:∀ y ∈ f5,y ∉ f11) (d5_12:∀ y ∈ f5,y ∉ f12) (d6_7:∀ y ∈ f6,y ∉ f7) (d6_8:∀ y ∈ f6,y ∉ f8) (d6_9:∀ y ∈ f6,y ∉ f9) (d6_10:∀ y ∈ f6,y ∉ f10) (d6_11:∀ y ∈ f6,y ∉ f11) (d6_12:∀ y ∈ f6,y ∉ f12) (d7_8:∀ y ∈ f7,y ∉ f8) (d7_9:∀ y ∈ f7,y ∉ f9) (d7_10:∀ y ∈ f7,y ∉ f10) (d7_11:∀ y ∈ f7,y ∉ f11) (d7_12:∀ y ∈ f7,y ∉ f12) (d8_9:∀ y ∈ f8,y ∉ f9) (d8_10:∀ y ∈ f8,y ∉ f10) (d8_11:∀ y ∈ f8,y ∉ f11) (d8_12:∀ y ∈ f8,y ∉ f12) (d9_10:∀ y ∈ f9,y ∉ f10) (d9_11:∀ y ∈ f9,y ∉ f11) (d9_12:∀ y ∈ f9,y ∉ f12) (d10_11:∀ y ∈ f10,y ∉ f11) (d10_12:∀ y ∈ f10,y ∉ f12) (d11_12:∀ y ∈ f11,y ∉ f12) (hs:sizL x.tr≤1099511627776) (hk0:k0+cnt (intsT x.terrain.heights)+cnt (intsT x.terrain.clutter)+cnt (DSite.sT x.network.sites)+cnt (DSector.sT x.network.sectors)+cnt (DAntenna.sT x.network.antennas)+cnt (DRadio.sT x.network.radios)+cnt (DBand.sT x.bands)+cnt (DLicence.sT x.licences)+cnt (DProtected.sT x.protected_)+cnt (intssT x.apart)≤1099511627776) (hk1:0<k0) :
  Calls Tryz.prog 17 #[.agg #[.int .i64 x.terrain.step,.int .i64 x.terrain.width,.int .i64 x.terrain.height,v3,v4,v5,v6,v7,v8,v9,v10,v11,v12,.int .i64 x.day],.int .i64 K] w fun e w'=>e=.returned (.int .i64 ((k0+cnt (intsT x.terrain.heights)+cnt (intsT x.terrain.clutter)+cnt (DSite.sT x.network.sites)+cnt (DSector.sT x.network.sectors)+cnt (DAntenna.sT x.network.antennas)+cnt (DRadio.sT x.network.radios)+cnt (DBand.sT x.bands)+cnt (DLicence.sT x.licences)+cnt (DProtected.sT x.protected_)+cnt (intssT x.apart):Nat):Int))∧Own w' (mkT (intsT x.terrain.heights) (k0)) v3 f3∧Own w' (mkT (intsT x.terrain.clutter) (k0+cnt (intsT x.terrain.heights))) v4 f4∧Own w' (mkT (DSite.sT x.network.sites) (k0+cnt (intsT x.terrain.heights)+cnt (intsT x.terrain.clutter))) v5 f5∧Own w' (mkT (DSector.sT x.network.sectors) (k0+cnt (intsT x.terrain.heights)+cnt (intsT x.terrain.clutter)+cnt (DSite.sT x.network.sites))) v6 f6∧Own w' (mkT (DAntenna.sT x.network.antennas) (k0+cnt (intsT x.terrain.heights)+cnt (intsT x.terrain.clutter)+cnt (DSite.sT x.network.sites)+cnt (DSector.sT x.network.sectors))) v7 f7∧Own w' (mkT (DRadio.sT x.network.radios) (k0+cnt (intsT x.terrain.heights)+cnt (intsT x.terrain.clutter)+cnt (DSite.sT x.network.sites)+cnt (DSector.sT x.network.sectors)+cnt (DAntenna.sT x.network.antennas))) v8 f8∧Own w' (mkT (DBand.sT x.bands) (k0+cnt (intsT x.terrain.heights)+cnt (intsT x.terrain.clutter)+cnt (DSite.sT x.network.sites)+cnt (DSector.sT x.network.sectors)+cnt (DAntenna.sT x.network.antennas)+cnt (DRadio.sT x.network.radios))) v9 f9∧Own w' (mkT (DLicence.sT x.licences) (k0+cnt (intsT x.terrain.heights)+cnt (intsT x.terrain.clutter)+cnt (DSite.sT x.network.sites)+cnt (DSector.sT x.network.sectors)+cnt (DAntenna.sT x.network.antennas)+cnt (DRadio.sT x.network.radios)+cnt (DBand.sT x.bands))) v10 f10∧Own w' (mkT (DProtected.sT x.protected_) (k0+cnt (intsT x.terrain.heights)+cnt (intsT x.terrain.clutter)+cnt (DSite.sT x.network.sites)+cnt (DSector.sT x.network.sectors)+cnt (DAntenna.sT x.network.antennas)+cnt (DRadio.sT x.network.radios)+cnt (DBand.sT x.bands)+cnt (DLicence.sT x.licences))) v11 f11∧Own w' (mkT (intssT x.apart) (k0+cnt (intsT x.terrain.heights)+cnt (intsT x.terrain.clutter)+cnt (DSite.sT x.network.sites)+cnt (DSector.sT x.network.sectors)+cnt (DAntenna.sT x.network.antennas)+cnt (DRadio.sT x.network.radios)+cnt (DBand.sT x.bands)+cnt (DLicence.sT x.licences)+cnt (DProtected.sT x.protected_))) v12 f12∧Chg (f3++f4++f5++f6++f7++f8++f9++f10++f11++f12) w w':=by
 subst hK
 exact mark_Plan x v3 v4 v5 v6 v7 v8 v9 v10 v11 v12 f3 f4 f5 f6 f7 f8 f9 f10 f11 f12 k0 l3 m3 l4 m4 l5 m5 l6 m6 l7 m7 l8 m8 l9 m9 l10 m10 l11 m11 l12 m12 w o3 i3 n3 o4 i4 n4 o5 i5 n5 o6 i6 n6 o7 i7 n7 o8 i8 n8 o9 i9 n9 o10 i10 n10 o11 i11 n11 o12 i12 n12 d3_4 d3_5 d3_6 d3_7 d3_8 d3_9 d3_10 d3_11 d3_12 d4_5 d4_6 d4_7 d4_8 d4_9 d4_10 d4_11 d4_12 d5_6 d5_7 d5_8 d5_9 d5_10 d5_11 d5_12 d6_7 d6_8 d6_9 d6_10 d6_11 d6_12 d7_8 d7_9 d7_10 d7_11 d7_12 d8_9 d8_10 d8_11 d8_12 d9_10 d9_11 d9_12 d10_11 d10_12 d11_12 hs hk0 hk1
end Go.Proofs.YtjfmkmcefnidcaaGreat
