/- Contracts: ChannelsOf and SectorsAt, for the program and for the reference. Conditions: bounded sizes. -/
import Derived.Test.YtefefgamiaganaaNetG
import Derived.Test.YtefefgamiaganaaClone
namespace Go.Proofs.Ytefefgamiaganaa
open Go.RowKit
set_option linter.unusedVariables false
set_option linter.unusedSimpArgs false


/-- what is collected from a list -/
def col {α β : Type} (f : α → β) (p : α → Bool) (l : List α) : List β := (l.filter p).map f
theorem col_take_succ {α β : Type} (f : α → β) (p : α → Bool) (l : List α) (k : Nat) (h : k < l.length) : col f p (l.take (k + 1)) = col f p (l.take k) ++ (if p l[k] = true then [f l[k]] else []) := by
  unfold col
  rw [List.take_succ_eq_append_getElem h, List.filter_append, List.map_append]
  congr 1
  by_cases hp : p l[k] = true <;> simp [List.filter_cons, hp]
theorem col_len {α β : Type} (f : α → β) (p : α → Bool) (l : List α) : (col f p l).length ≤ l.length := by
  unfold col; rw [List.length_map]; exact List.length_filter_le _ _
theorem infoStr : (Try.prog.info? 9).map (fun i => (i.zero, i.size, i.bytes)) = some (some (.string ⟨#[]⟩), 1, 16) := by kernel_rfl
def atSite (nm : ByteArray) (x : DSector) : Bool := eqS x.site nm
def anyS (x : DSector) : Bool := true
def chanR (n : DNetwork) : List Int × Int := if netB n = true then (col DSector.channel anyS n.sectors, 0) else ([], 1)
def atR (n : DNetwork) (nm : ByteArray) : List ByteArray × Int := if netB n = true then (if 0 ≤ idxSite n.sites nm then (col DSector.name (atSite nm) n.sectors, 0) else ([], 3)) else ([], 1)
theorem own_nilI (w : World) : Own w (intsT []) (.slice none 0 0) [] := ⟨Rep_sl.2 ⟨none, 0, 0, rfl, rfl, Nat.le_refl _, by unfold maxLen; omega, Or.inl ⟨rfl, rfl⟩⟩, List.nodup_nil, fun b h => by simp at h⟩
theorem own_nilS (w : World) : Own w (strsT []) (.slice none 0 0) [] := ⟨Rep_sl.2 ⟨none, 0, 0, rfl, rfl, Nat.le_refl _, by unfold maxLen; omega, Or.inl ⟨rfl, rfl⟩⟩, List.nodup_nil, fun b h => by simp at h⟩
theorem grow_empty1 (w : World) (E : Nat) : Grow (w.alloc (.cells #[] E)) w.heap.size E 1 (.slice (some ⟨w.heap.size, 0, none⟩) 0 0) 0 [] [] := grow_empty w E
set_option maxHeartbeats 4000000 in
set_option maxRecDepth 100000 in
theorem channels_any (n : DNetwork) (v0 v1 v2 v3 : Value) (w : World) (r1 : Rd w.heap.size w (DSector.sT n.sectors) v1) (l1 : n.sectors.length ≤ 1048576) :
    Calls Try.prog 59 #[.agg #[v0, v1, v2, v3]] w fun e w' => ∃ a c fp, e = .returned (.slice a (col DSector.channel anyS n.sectors).length c) ∧ Below w.heap.size w w' ∧ Own w' (intsT (col DSector.channel anyS n.sectors)) (.slice a (col DSector.channel anyS n.sectors).length c) fp ∧ In w.heap.size w'.heap.size fp := by
  have HR := Lib.hid r1
  obtain ⟨A1, C1, e1, _, _, _⟩ := DSector.rd r1
  subst e1
  clear r1
  have hbn : w.heap.size < w.heap.size + 1 := by omega
  have hn1 : (w.alloc (.cells #[v0, .slice A1 n.sectors.length C1, v2, v3] 40)).cell? ⟨w.heap.size, 1, none⟩ = some (.slice A1 n.sectors.length C1) := by simp [go_sem]
  have hbase : w.heap.size ≤ w.heap.size + 1 := by omega
  have zW : (w.alloc (.cells #[v0, .slice A1 n.sectors.length C1, v2, v3] 40)).heap.size = w.heap.size + 1 := by simp
  have BS : Hid (Below w.heap.size w (w.alloc (.cells #[v0, .slice A1 n.sectors.length C1, v2, v3] 40))) := (Below.refl _ _).alloc (Nat.le_refl _) _
  obtain ⟨a', c', e', _, _, hcl⟩ := DSector.rd HR.out
  injection e' with e1 _ e3
  subst e1 e3
  have HCL := Lib.hid hcl
  clear hcl
  go_enter Try.func59, Try.ntmps59
  go_wp2
  obtain ⟨i0, hi0, hz0, hz1, hz2⟩ := info_parts infoI
  go_loopw [3, 9] (fun out i wr => ∃ (k : Nat), k ≤ n.sectors.length ∧ i = .int .i64 k ∧ Below (w.heap.size + 1) (w.alloc (.cells #[v0, .slice A1 n.sectors.length C1, v2, v3] 40)) wr ∧ Grow wr (w.heap.size + 1) 2 1 out (col DSector.channel (anyS) (n.sectors.take k)).length ((col DSector.channel (anyS) (n.sectors.take k)).map intT) []) (fun _ i wr => n.sectors.length - (intOf i).toNat)
  case atStart => exact ⟨0, Nat.zero_le _, rfl, Below.refl _ _, by simpa [col] using Grow.nil⟩
  case round =>
    obtain ⟨k, hk, rfl, hb, hgr⟩ := hrel
    have HB := Lib.hid hb
    have HG := Lib.hid hgr
    have zr := hb.size
    clear hb hgr
    have n1 : wr.cell? ⟨w.heap.size, 1, none⟩ = some (.slice A1 n.sectors.length C1) := by rw [bat HB.out (w.heap.size) 1 hbn]; exact hn1
    have yn : w.heap.size < wr.heap.size := by omega
    have BW := Lib.hid (BS.out.trans (HB.out.mono hbase))
    have hcl1 := col_len DSector.channel (anyS) (n.sectors.take k)
    rw [List.length_take] at hcl1
    by_cases hlt : k < n.sectors.length
    · obtain ⟨b, off, ea, hbl, hat⟩ := HCL.out (by omega)
      subst ea
      obtain ⟨s0, s1, s2, s3, s4, s5, s6, s7, s8⟩ := hat k hlt
      rw [← bat BW.out b _ hbl] at s0 s1 s2 s3 s4 s5 s6 s7 s8
      clear hat
      have HSU := Lib.hid (col_take_succ DSector.channel (anyS) n.sectors k hlt)
      have yb : b < wr.heap.size := by have := BW.out.size; omega
      generalize hA : n.sectors[k] = A at *
      clear hA
      have HXV : Hid (Value.slice (some ⟨wr.heap.size + 1, 0, none⟩) 1 1 = Value.slice (some ⟨(wr.alloc (.cells #[.string A.name, .string A.site, .string A.antenna, .string A.radio, .string A.band, .int .i64 A.azimuth, .int .i64 A.tilt, .int .i64 A.above, .int .i64 A.channel] 46)).heap.size, 0, none⟩) 1 1) := by show _ = _; simp
      have HBS : Hid (w.heap.size + 1 ≤ (wr.alloc (.cells #[.string A.name, .string A.site, .string A.antenna, .string A.radio, .string A.band, .int .i64 A.azimuth, .int .i64 A.tilt, .int .i64 A.above, .int .i64 A.channel] 46)).heap.size) := by show _ ≤ _; simp; omega
      have HG1 := Lib.hid (HG.out.below (lo := 0) (w' := (wr.alloc (.cells #[.string A.name, .string A.site, .string A.antenna, .string A.radio, .string A.band, .int .i64 A.azimuth, .int .i64 A.tilt, .int .i64 A.above, .int .i64 A.channel] 46))) In.nil ((Below.refl _ _).alloc (Nat.le_refl _) _))
      have HP : Hid (anyS A = true) := rfl
      go_wp2_with (at_builtin; refine wpList_append1 rfl (.tmp 13) (.tmp 16) _ rfl (w.heap.size + 1) 2 i0 _ 1 8 Try.underlying58 hi0 hz0 hz1 hz2 rfl (by omega) _ _ _ [] rfl HG1.out [.int .i64 A.channel] [intT A.channel] [] rfl 1 HXV.out (fun u hu => by simp at hu; subst hu; rfl) (RepV.lits [.int .i64 A.channel]) List.nodup_nil (fun b h => by simp at h) 0 In.nil In.nil (by simp) (by simp) (by unfold maxLen; omega) (by omega) HBS.out ?_; intro v2 w2 hgn)
      have HGN := Lib.hid hgn
      clear hgn
      go_wp2
      go_roundw
      case rel =>
        refine ⟨k + 1, by omega, by go_num, HB.out.trans (Below.trans ((Below.refl _ _).alloc (by omega) _) HGN.out.below), ?_⟩
        rw [HSU.out, if_pos HP.out, List.length_append, List.map_append]
        exact HGN.out.grow
      case measure => simp [intOf]; omega
    · obtain rfl : k = n.sectors.length := by omega
      rw [List.take_length] at HG
      obtain ⟨av, cv, fv, ev, ov, iv⟩ := HG.out.toOwn (lo := w.heap.size) (by omega) In.nil (by omega)
      subst ev
      go_wp2
      go_ret
      exact ⟨av, cv, fv, rfl, BW.out, ov, iv⟩
set_option maxHeartbeats 4000000 in
set_option maxRecDepth 100000 in
theorem iChannelsOf_std (n : DNetwork) (vn0 vn1 vn2 vn3 : Value) (w : World) (rn0 : Rd w.heap.size w (DSite.sT n.sites) vn0) (rn1 : Rd w.heap.size w (DSector.sT n.sectors) vn1) (rn2 : Rd w.heap.size w (DAntenna.sT n.antennas) vn2) (rn3 : Rd w.heap.size w (DRadio.sT n.radios) vn3) (hs_n : sizL n.tr ≤ 1048576) (hk_n : n.ok) :
    Calls Try.prog 24 #[.agg #[vn0, vn1, vn2, vn3]] w (fun e w' => ∃ a0_0 c0_0 fp0, e = .returned (.tuple #[.slice a0_0 (chanR n).1.length c0_0, .int .i64 (chanR n).2]) ∧ Below w.heap.size w w' ∧ Own w' (intsT (chanR n).1) (.slice a0_0 (chanR n).1.length c0_0) fp0 ∧ In w.heap.size w'.heap.size fp0) := by
  have hq := DNetwork.siz_tr n
  rw [DSite.siz_s, DSector.siz_s, DAntenna.siz_s, DRadio.siz_s] at hq
  obtain ⟨A0, C0, e0, _, _, _⟩ := DSite.rd rn0
  obtain ⟨A1, C1, e1, _, _, _⟩ := DSector.rd rn1
  obtain ⟨A2, C2, e2, _, _, _⟩ := DAntenna.rd rn2
  obtain ⟨A3, C3, e3, _, _, _⟩ := DRadio.rd rn3
  subst e0 e1 e2 e3
  have b0 : Below w.heap.size w (w.alloc (.cells #[.slice A0 n.sites.length C0, .slice A1 n.sectors.length C1, .slice A2 n.antennas.length C2, .slice A3 n.radios.length C3] 40)) := ((Below.refl _ _).alloc (Nat.le_refl _) _)
  have y0 : w.heap.size + 1 ≤ (w.alloc (.cells #[.slice A0 n.sites.length C0, .slice A1 n.sectors.length C1, .slice A2 n.antennas.length C2, .slice A3 n.radios.length C3] 40)).heap.size := by simp
  have hl1 : n.sectors.length ≤ 1048576 := by omega
  have HV := Lib.hid (validNetwork_any n _ _ _ _ (w.alloc (.cells #[.slice A0 n.sites.length C0, .slice A1 n.sectors.length C1, .slice A2 n.antennas.length C2, .slice A3 n.radios.length C3] 40)) ((rn0.below b0).mono b0.size) ((rn1.below b0).mono b0.size) ((rn2.below b0).mono b0.size) ((rn3.below b0).mono b0.size) (by omega) hk_n)
  have HC : Hid (∀ W : World, Below w.heap.size w W → _) := fun W hW => channels_any n (.slice A0 n.sites.length C0) _ (.slice A2 n.antennas.length C2) (.slice A3 n.radios.length C3) W ((rn1.below hW).mono hW.size) hl1
  have B0 := Lib.hid b0
  have HR := Lib.hid rn1
  clear b0 rn0 rn1 rn2 rn3
  by_cases hv : netB n = true
  · have HE : Hid (chanR n = (col DSector.channel anyS n.sectors, 0)) := by show _ = _; unfold chanR; rw [if_pos hv]
    go_enter Try.func24, Try.ntmps24
    go_wp2_with fail
    refine (HV.out).mono ?_
    rintro e w2 ⟨rfl, hb2⟩
    rw [hv]
    obtain ⟨qa2, _, ya2⟩ := bcellAt hb2 (b := w.heap.size) (by omega)
    have B2 := Lib.hid (B0.out.trans (hb2.mono B0.out.size))
    clear hb2
    go_wp2_with fail
    refine (HC.out _ B2.out).mono ?_
    rintro e w3 ⟨a3, c3, f3, rfl, hb3, o3, i3⟩
    have B3 := Lib.hid (B2.out.trans (hb3.mono B2.out.size))
    clear hb3
    have z2 := B2.out.size
    go_wp2
    go_ret2
    rw [HE.out]
    exact ⟨a3, c3, f3, rfl, B3.out, o3, i3.mono (by omega) (Nat.le_refl _)⟩
  · replace hv : netB n = false := Bool.eq_false_iff.2 hv
    have HE : Hid (chanR n = ([], 1)) := by show _ = _; unfold chanR; rw [if_neg (by simp [hv])]
    go_enter Try.func24, Try.ntmps24
    go_wp2_with fail
    refine (HV.out).mono ?_
    rintro e w2 ⟨rfl, hb2⟩
    rw [hv]
    obtain ⟨qa2, _, ya2⟩ := bcellAt hb2 (b := w.heap.size) (by omega)
    have B2 := Lib.hid (B0.out.trans (hb2.mono B0.out.size))
    clear hb2
    go_wp2
    go_ret2
    rw [HE.out]
    exact ⟨none, 0, [], rfl, B2.out, own_nilI _, In.nil⟩
set_option maxHeartbeats 4000000 in
set_option maxRecDepth 100000 in
theorem sChannelsOf_std (n : DNetwork) (vn0 vn1 vn2 vn3 : Value) (w : World) (rn0 : Rd w.heap.size w (DSite.sT n.sites) vn0) (rn1 : Rd w.heap.size w (DSector.sT n.sectors) vn1) (rn2 : Rd w.heap.size w (DAntenna.sT n.antennas) vn2) (rn3 : Rd w.heap.size w (DRadio.sT n.radios) vn3) (hs_n : sizL n.tr ≤ 1048576) (hk_n : n.ok) :
    Calls Try.prog 23 #[.agg #[vn0, vn1, vn2, vn3]] w (fun e w' => ∃ a0_0 c0_0 fp0, e = .returned (.tuple #[.slice a0_0 (chanR n).1.length c0_0, .int .i64 (chanR n).2]) ∧ Below w.heap.size w w' ∧ Own w' (intsT (chanR n).1) (.slice a0_0 (chanR n).1.length c0_0) fp0 ∧ In w.heap.size w'.heap.size fp0) := by
  have hq := DNetwork.siz_tr n
  rw [DSite.siz_s, DSector.siz_s, DAntenna.siz_s, DRadio.siz_s] at hq
  obtain ⟨A0, C0, e0, _, _, _⟩ := DSite.rd rn0
  obtain ⟨A1, C1, e1, _, _, _⟩ := DSector.rd rn1
  obtain ⟨A2, C2, e2, _, _, _⟩ := DAntenna.rd rn2
  obtain ⟨A3, C3, e3, _, _, _⟩ := DRadio.rd rn3
  subst e0 e1 e2 e3
  have b0 : Below w.heap.size w (w.alloc (.cells #[.slice A0 n.sites.length C0, .slice A1 n.sectors.length C1, .slice A2 n.antennas.length C2, .slice A3 n.radios.length C3] 40)) := ((Below.refl _ _).alloc (Nat.le_refl _) _)
  have y0 : w.heap.size + 1 ≤ (w.alloc (.cells #[.slice A0 n.sites.length C0, .slice A1 n.sectors.length C1, .slice A2 n.antennas.length C2, .slice A3 n.radios.length C3] 40)).heap.size := by simp
  have hl1 : n.sectors.length ≤ 1048576 := by omega
  have HV := Lib.hid (l14Ok_any n _ _ _ _ w.heap.size (w.alloc (.cells #[.slice A0 n.sites.length C0, .slice A1 n.sectors.length C1, .slice A2 n.antennas.length C2, .slice A3 n.radios.length C3] 40)) ((rn0.below b0).mono b0.size) ((rn1.below b0).mono b0.size) ((rn2.below b0).mono b0.size) ((rn3.below b0).mono b0.size) (by omega) (by simp [go_sem]) (by simp [go_sem]) (by simp [go_sem]) (by simp [go_sem]) (by omega) hk_n)
  have B0 := Lib.hid b0
  have HR := Lib.hid rn1
  clear b0 rn0 rn1 rn2 rn3
  by_cases hv : netB n = true
  · have HE : Hid (chanR n = (col DSector.channel anyS n.sectors, 0)) := by show _ = _; unfold chanR; rw [if_pos hv]
    go_enter Try.func23, Try.ntmps23
    go_wp2_with fail
    refine (HV.out).mono ?_
    rintro e w2 ⟨rfl, hb2⟩
    rw [hv]
    obtain ⟨qa2, _, ya2⟩ := bcellAt hb2 (b := w.heap.size) (by omega)
    have B2 := Lib.hid (B0.out.trans (hb2.mono B0.out.size))
    clear hb2
    have hbn : w.heap.size < w2.heap.size := ya2
    have hn1 : w2.cell? ⟨w.heap.size, 1, none⟩ = some (.slice A1 n.sectors.length C1) := by rw [qa2]; simp [go_sem]
    have hbase : w.heap.size ≤ w2.heap.size := by omega
    have BS := B2
    obtain ⟨a', c', e', _, _, hcl⟩ := DSector.rd HR.out
    injection e' with e1 _ e3
    subst e1 e3
    have HCL := Lib.hid hcl
    clear hcl qa2
    go_wp2
    obtain ⟨i0, hi0, hz0, hz1, hz2⟩ := info_parts infoI
    go_loopw [4, 5] (fun out i wr => ∃ (k : Nat), k ≤ n.sectors.length ∧ i = .int .i64 k ∧ Below (w2.heap.size) w2 wr ∧ Grow wr (w2.heap.size) 2 1 out (col DSector.channel (anyS) (n.sectors.take k)).length ((col DSector.channel (anyS) (n.sectors.take k)).map intT) []) (fun _ i wr => n.sectors.length - (intOf i).toNat)
    case atStart => exact ⟨0, Nat.zero_le _, rfl, (Below.refl _ _).alloc (Nat.le_refl _) _, by simpa [col] using grow_empty1 w2 2⟩
    case round =>
      obtain ⟨k, hk, rfl, hb, hgr⟩ := hrel
      have HB := Lib.hid hb
      have HG := Lib.hid hgr
      have zr := hb.size
      clear hb hgr
      have n1 : wr.cell? ⟨w.heap.size, 1, none⟩ = some (.slice A1 n.sectors.length C1) := by rw [bat HB.out (w.heap.size) 1 hbn]; exact hn1
      have yn : w.heap.size < wr.heap.size := by omega
      have BW := Lib.hid (BS.out.trans (HB.out.mono hbase))
      have hcl1 := col_len DSector.channel (anyS) (n.sectors.take k)
      rw [List.length_take] at hcl1
      by_cases hlt : k < n.sectors.length
      · obtain ⟨b, off, ea, hbl, hat⟩ := HCL.out (by omega)
        subst ea
        obtain ⟨s0, s1, s2, s3, s4, s5, s6, s7, s8⟩ := hat k hlt
        rw [← bat BW.out b _ hbl] at s0 s1 s2 s3 s4 s5 s6 s7 s8
        clear hat
        have HSU := Lib.hid (col_take_succ DSector.channel (anyS) n.sectors k hlt)
        have yb : b < wr.heap.size := by have := BW.out.size; omega
        generalize hA : n.sectors[k] = A at *
        clear hA
        have HP : Hid (anyS A = true) := rfl
        go_wp2_with (at_builtin; refine wpList_append1 rfl (.tmp 16) (.tmp 23) _ rfl (w2.heap.size) 2 i0 _ 1 8 Try.underlying58 hi0 hz0 hz1 hz2 rfl (by omega) _ _ _ [] rfl HG.out [.int .i64 A.channel] [intT A.channel] [] rfl 1 rfl (fun u hu => by simp at hu; subst hu; rfl) (RepV.lits [.int .i64 A.channel]) List.nodup_nil (fun b h => by simp at h) 0 In.nil In.nil (by simp) (by simp) (by unfold maxLen; omega) (by omega) (by omega) ?_; intro v2 w2 hgn)
        have HGN := Lib.hid hgn
        clear hgn
        go_wp2
        go_roundw
        case rel =>
          refine ⟨k + 1, by omega, by go_num, HB.out.trans (Below.trans (Below.refl _ _) HGN.out.below), ?_⟩
          rw [HSU.out, if_pos HP.out, List.length_append, List.map_append]
          exact HGN.out.grow
        case measure => simp [intOf]; omega
      · obtain rfl : k = n.sectors.length := by omega
        rw [List.take_length] at HG
        obtain ⟨av, cv, fv, ev, ov, iv⟩ := HG.out.toOwn (lo := w.heap.size) (by omega) In.nil (by omega)
        subst ev
        go_wp2
        go_ret2
        rw [HE.out]
        exact ⟨av, cv, fv, rfl, BW.out, ov, iv⟩
  · replace hv : netB n = false := Bool.eq_false_iff.2 hv
    have HE : Hid (chanR n = ([], 1)) := by show _ = _; unfold chanR; rw [if_neg (by simp [hv])]
    go_enter Try.func23, Try.ntmps23
    go_wp2_with fail
    refine (HV.out).mono ?_
    rintro e w2 ⟨rfl, hb2⟩
    rw [hv]
    obtain ⟨qa2, _, ya2⟩ := bcellAt hb2 (b := w.heap.size) (by omega)
    have B2 := Lib.hid (B0.out.trans (hb2.mono B0.out.size))
    clear hb2
    go_wp2
    go_ret2
    rw [HE.out]
    exact ⟨none, 0, [], rfl, B2.out, own_nilI _, In.nil⟩
set_option maxHeartbeats 4000000 in
set_option maxRecDepth 100000 in
theorem l14At_any (n : DNetwork) (nm : ByteArray) (v1 : Value) (bp : Nat) (w : World) (r1 : Rd w.heap.size w (DSector.sT n.sectors) v1) (hbn : bp < w.heap.size) (hn1 : w.cell? ⟨bp, 1, none⟩ = some v1) (l1 : n.sectors.length ≤ 1048576) :
    Calls Try.prog 64 #[.pointer (some ⟨bp, 0, none⟩), .string nm] w fun e w' => ∃ a c fp, e = .returned (.slice a (col DSector.name (atSite nm) n.sectors).length c) ∧ Below w.heap.size w w' ∧ Own w' (strsT (col DSector.name (atSite nm) n.sectors)) (.slice a (col DSector.name (atSite nm) n.sectors).length c) fp ∧ In w.heap.size w'.heap.size fp := by
  have HR := Lib.hid r1
  obtain ⟨A1, C1, e1, _, _, _⟩ := DSector.rd r1
  subst e1
  clear r1
  have hbase : w.heap.size ≤ w.heap.size := Nat.le_refl _
  have BS : Hid (Below w.heap.size w w) := Below.refl _ _
  obtain ⟨a', c', e', _, _, hcl⟩ := DSector.rd HR.out
  injection e' with e1 _ e3
  subst e1 e3
  have HCL := Lib.hid hcl
  clear hcl
  go_enter Try.func64, Try.ntmps64
  go_wp2
  obtain ⟨i0, hi0, hz0, hz1, hz2⟩ := info_parts infoStr
  go_loopw [5, 6] (fun out i wr => ∃ (k : Nat), k ≤ n.sectors.length ∧ i = .int .i64 k ∧ Below (w.heap.size) w wr ∧ Grow wr (w.heap.size) 9 1 out (col DSector.name (atSite nm) (n.sectors.take k)).length ((col DSector.name (atSite nm) (n.sectors.take k)).map strT) []) (fun _ i wr => n.sectors.length - (intOf i).toNat)
  case atStart => exact ⟨0, Nat.zero_le _, rfl, (Below.refl _ _).alloc (Nat.le_refl _) _, by simpa [col] using grow_empty1 w 9⟩
  case round =>
    obtain ⟨k, hk, rfl, hb, hgr⟩ := hrel
    have HB := Lib.hid hb
    have HG := Lib.hid hgr
    have zr := hb.size
    clear hb hgr
    have n1 : wr.cell? ⟨bp, 1, none⟩ = some (.slice A1 n.sectors.length C1) := by rw [bat HB.out (bp) 1 hbn]; exact hn1
    have yn : bp < wr.heap.size := by omega
    have BW := Lib.hid (BS.out.trans (HB.out.mono hbase))
    have hcl1 := col_len DSector.name (atSite nm) (n.sectors.take k)
    rw [List.length_take] at hcl1
    by_cases hlt : k < n.sectors.length
    · obtain ⟨b, off, ea, hbl, hat⟩ := HCL.out (by omega)
      subst ea
      obtain ⟨s0, s1, s2, s3, s4, s5, s6, s7, s8⟩ := hat k hlt
      rw [← bat BW.out b _ hbl] at s0 s1 s2 s3 s4 s5 s6 s7 s8
      clear hat
      have HSU := Lib.hid (col_take_succ DSector.name (atSite nm) n.sectors k hlt)
      have yb : b < wr.heap.size := by have := BW.out.size; omega
      generalize hA : n.sectors[k] = A at *
      clear hA
      by_cases hp : (A.site.toList == nm.toList) = true
      · have HP : Hid (atSite nm A = true) := hp
        go_wp2_with (at_builtin; refine wpList_append1 rfl (.tmp 27) (.tmp 36) _ rfl (w.heap.size) 9 i0 _ 1 16 Try.underlying65 hi0 hz0 hz1 hz2 rfl (by omega) _ _ _ [] rfl HG.out [.string A.name] [strT A.name] [] rfl 1 rfl (fun u hu => by simp at hu; subst hu; rfl) (RepV.lits [.string A.name]) List.nodup_nil (fun b h => by simp at h) 0 In.nil In.nil (by simp) (by simp) (by unfold maxLen; omega) (by omega) (by omega) ?_; intro v2 w2 hgn)
        have HGN := Lib.hid hgn
        clear hgn
        go_wp2
        go_roundw
        case rel =>
          refine ⟨k + 1, by omega, by go_num, HB.out.trans (Below.trans (Below.refl _ _) HGN.out.below), ?_⟩
          rw [HSU.out, if_pos HP.out, List.length_append, List.map_append]
          exact HGN.out.grow
        case measure => simp [intOf]; omega
      · replace hp : (A.site.toList == nm.toList) = false := Bool.eq_false_iff.2 hp
        have HP : Hid (atSite nm A = false) := hp
        go_wp2
        go_roundw
        case rel =>
          refine ⟨k + 1, by omega, by go_num, HB.out, ?_⟩
          rw [HSU.out, HP.out, if_neg (by simp), List.append_nil]
          exact HG.out
        case measure => simp [intOf]; omega
    · obtain rfl : k = n.sectors.length := by omega
      rw [List.take_length] at HG
      obtain ⟨av, cv, fv, ev, ov, iv⟩ := HG.out.toOwn (lo := w.heap.size) (by omega) In.nil (by omega)
      subst ev
      go_wp2
      go_ret
      exact ⟨av, cv, fv, rfl, BW.out, ov, iv⟩
set_option maxHeartbeats 8000000 in
set_option maxRecDepth 100000 in
theorem iSectorsAt_std (n : DNetwork) (nm : ByteArray) (vn0 vn1 vn2 vn3 : Value) (w : World) (rn0 : Rd w.heap.size w (DSite.sT n.sites) vn0) (rn1 : Rd w.heap.size w (DSector.sT n.sectors) vn1) (rn2 : Rd w.heap.size w (DAntenna.sT n.antennas) vn2) (rn3 : Rd w.heap.size w (DRadio.sT n.radios) vn3) (hs_n : sizL n.tr ≤ 1048576) (hk_n : n.ok) (hs_nm : nm.size ≤ 1048576) :
    Calls Try.prog 30 #[.agg #[vn0, vn1, vn2, vn3], .string nm] w (fun e w' => ∃ a0_0 c0_0 fp0, e = .returned (.tuple #[.slice a0_0 (atR n nm).1.length c0_0, .int .i64 (atR n nm).2]) ∧ Below w.heap.size w w' ∧ Own w' (strsT (atR n nm).1) (.slice a0_0 (atR n nm).1.length c0_0) fp0 ∧ In w.heap.size w'.heap.size fp0) := by
  have hq := DNetwork.siz_tr n
  rw [DSite.siz_s, DSector.siz_s, DAntenna.siz_s, DRadio.siz_s] at hq
  obtain ⟨A0, C0, e0, _, _, _⟩ := DSite.rd rn0
  obtain ⟨A1, C1, e1, _, _, _⟩ := DSector.rd rn1
  obtain ⟨A2, C2, e2, _, _, _⟩ := DAntenna.rd rn2
  obtain ⟨A3, C3, e3, _, _, _⟩ := DRadio.rd rn3
  subst e0 e1 e2 e3
  have b0 : Below w.heap.size w (w.alloc (.cells #[.slice A0 n.sites.length C0, .slice A1 n.sectors.length C1, .slice A2 n.antennas.length C2, .slice A3 n.radios.length C3] 40)) := ((Below.refl _ _).alloc (Nat.le_refl _) _)
  have y0 : w.heap.size + 1 ≤ (w.alloc (.cells #[.slice A0 n.sites.length C0, .slice A1 n.sectors.length C1, .slice A2 n.antennas.length C2, .slice A3 n.radios.length C3] 40)).heap.size := by simp
  have hl1 : n.sectors.length ≤ 1048576 := by omega
  have HV := Lib.hid (validNetwork_any n _ _ _ _ (w.alloc (.cells #[.slice A0 n.sites.length C0, .slice A1 n.sectors.length C1, .slice A2 n.antennas.length C2, .slice A3 n.radios.length C3] 40)) ((rn0.below b0).mono b0.size) ((rn1.below b0).mono b0.size) ((rn2.below b0).mono b0.size) ((rn3.below b0).mono b0.size) (by omega) hk_n)
  have HI : Hid (∀ W : World, Below w.heap.size w W → Calls Try.prog 44 #[.agg #[.slice A0 n.sites.length C0, .slice A1 n.sectors.length C1, .slice A2 n.antennas.length C2, .slice A3 n.radios.length C3], .string nm] W fun e w' => e = .returned (.int .i64 (idxSite n.sites nm)) ∧ Below W.heap.size W w') := fun W hW => siteNamed_any n.sites nm _ _ _ _ w.heap.size W (rn0.below hW) hW.size (by omega)
  have B0 := Lib.hid b0
  have HR := Lib.hid rn1
  clear b0 rn0 rn1 rn2 rn3
  by_cases hv : netB n = true
  · rcases firstIdx_cases' (fun x : DSite => eqS x.name nm) n.sites with ⟨hi, _⟩ | ⟨k, hk, hi, _, _⟩
    · have HE : Hid (atR n nm = ([], 3)) := by show _ = _; unfold atR; rw [if_pos hv, if_neg (by rw [show idxSite n.sites nm = -1 from hi]; omega)]
      rw [show idxSite n.sites nm = -1 from hi] at HI
      clear hi
      go_enter Try.func30, Try.ntmps30
      go_wp2_with fail
      refine (HV.out).mono ?_
      rintro e w2 ⟨rfl, hb2⟩
      rw [hv]
      obtain ⟨qa2, _, ya2⟩ := bcellAt hb2 (b := w.heap.size) (by omega)
      have B2 := Lib.hid (B0.out.trans (hb2.mono B0.out.size))
      clear hb2
      go_wp2_with fail
      refine (HI.out _ B2.out).mono ?_
      rintro e w3 ⟨rfl, hb3⟩
      obtain ⟨qa3, _, ya3⟩ := bcellAt hb3 (b := w.heap.size) ya2
      have B3 := Lib.hid (B2.out.trans (hb3.mono B2.out.size))
      clear hb3
      go_wp2
      go_ret2
      rw [HE.out]
      exact ⟨none, 0, [], rfl, B3.out, own_nilS _, In.nil⟩
    · have HE : Hid (atR n nm = (col DSector.name (atSite nm) n.sectors, 0)) := by show _ = _; unfold atR; rw [if_pos hv, if_pos (by rw [show idxSite n.sites nm = (k : Int) from hi]; omega)]
      rw [show idxSite n.sites nm = (k : Int) from hi] at HI
      clear hi
      have i1 : (0 : Int) ≤ (k : Int) := by omega
      go_enter Try.func30, Try.ntmps30
      go_wp2_with fail
      refine (HV.out).mono ?_
      rintro e w2 ⟨rfl, hb2⟩
      rw [hv]
      obtain ⟨qa2, _, ya2⟩ := bcellAt hb2 (b := w.heap.size) (by omega)
      have B2 := Lib.hid (B0.out.trans (hb2.mono B0.out.size))
      clear hb2
      go_wp2_with fail
      refine (HI.out _ B2.out).mono ?_
      rintro e w3 ⟨rfl, hb3⟩
      obtain ⟨qa3, _, ya3⟩ := bcellAt hb3 (b := w.heap.size) ya2
      have B3 := Lib.hid (B2.out.trans (hb3.mono B2.out.size))
      clear hb3
      have hbn : w.heap.size < w3.heap.size := ya3
      have hn1 : w3.cell? ⟨w.heap.size, 1, none⟩ = some (.slice A1 n.sectors.length C1) := by rw [qa3, qa2]; simp [go_sem]
      have hbase : w.heap.size ≤ w3.heap.size := by omega
      have BS := B3
      obtain ⟨a', c', e', _, _, hcl⟩ := DSector.rd HR.out
      injection e' with e1 _ e3
      subst e1 e3
      have HCL := Lib.hid hcl
      clear hcl
      go_wp2
      clear qa2 qa3 i1
      obtain ⟨i0, hi0, hz0, hz1, hz2⟩ := info_parts infoStr
      go_loopw [6, 21] (fun out i wr => ∃ (k : Nat), k ≤ n.sectors.length ∧ i = .int .i64 k ∧ Below (w3.heap.size) w3 wr ∧ Grow wr (w3.heap.size) 9 1 out (col DSector.name (atSite nm) (n.sectors.take k)).length ((col DSector.name (atSite nm) (n.sectors.take k)).map strT) []) (fun _ i wr => n.sectors.length - (intOf i).toNat)
      case atStart => exact ⟨0, Nat.zero_le _, rfl, Below.refl _ _, by simpa [col] using Grow.nil⟩
      case round =>
        obtain ⟨k, hk, rfl, hb, hgr⟩ := hrel
        have HB := Lib.hid hb
        have HG := Lib.hid hgr
        have zr := hb.size
        clear hb hgr
        have n1 : wr.cell? ⟨w.heap.size, 1, none⟩ = some (.slice A1 n.sectors.length C1) := by rw [bat HB.out (w.heap.size) 1 hbn]; exact hn1
        have yn : w.heap.size < wr.heap.size := by omega
        have BW := Lib.hid (BS.out.trans (HB.out.mono hbase))
        have hcl1 := col_len DSector.name (atSite nm) (n.sectors.take k)
        rw [List.length_take] at hcl1
        by_cases hlt : k < n.sectors.length
        · obtain ⟨b, off, ea, hbl, hat⟩ := HCL.out (by omega)
          subst ea
          obtain ⟨s0, s1, s2, s3, s4, s5, s6, s7, s8⟩ := hat k hlt
          rw [← bat BW.out b _ hbl] at s0 s1 s2 s3 s4 s5 s6 s7 s8
          clear hat
          have HSU := Lib.hid (col_take_succ DSector.name (atSite nm) n.sectors k hlt)
          have yb : b < wr.heap.size := by have := BW.out.size; omega
          generalize hA : n.sectors[k] = A at *
          clear hA
          have HXV : Hid (Value.slice (some ⟨wr.heap.size + 1, 0, none⟩) 1 1 = Value.slice (some ⟨(wr.alloc (.cells #[.string A.name, .string A.site, .string A.antenna, .string A.radio, .string A.band, .int .i64 A.azimuth, .int .i64 A.tilt, .int .i64 A.above, .int .i64 A.channel] 46)).heap.size, 0, none⟩) 1 1) := by show _ = _; simp
          have HBS : Hid (w3.heap.size ≤ (wr.alloc (.cells #[.string A.name, .string A.site, .string A.antenna, .string A.radio, .string A.band, .int .i64 A.azimuth, .int .i64 A.tilt, .int .i64 A.above, .int .i64 A.channel] 46)).heap.size) := by show _ ≤ _; simp; omega
          have HG1 := Lib.hid (HG.out.below (lo := 0) (w' := (wr.alloc (.cells #[.string A.name, .string A.site, .string A.antenna, .string A.radio, .string A.band, .int .i64 A.azimuth, .int .i64 A.tilt, .int .i64 A.above, .int .i64 A.channel] 46))) In.nil ((Below.refl _ _).alloc (Nat.le_refl _) _))
          by_cases hp : (A.site.toList == nm.toList) = true
          · have HP : Hid (atSite nm A = true) := hp
            go_wp2_with (at_builtin; refine wpList_append1 rfl (.tmp 29) (.tmp 32) _ rfl (w3.heap.size) 9 i0 _ 1 16 Try.underlying65 hi0 hz0 hz1 hz2 rfl (by omega) _ _ _ [] rfl HG1.out [.string A.name] [strT A.name] [] rfl 1 HXV.out (fun u hu => by simp at hu; subst hu; rfl) (RepV.lits [.string A.name]) List.nodup_nil (fun b h => by simp at h) 0 In.nil In.nil (by simp) (by simp) (by unfold maxLen; omega) (by omega) HBS.out ?_; intro v2 w2 hgn)
            have HGN := Lib.hid hgn
            clear hgn
            go_wp2
            go_roundw
            case rel =>
              refine ⟨k + 1, by omega, by go_num, HB.out.trans (Below.trans ((Below.refl _ _).alloc (by omega) _) HGN.out.below), ?_⟩
              rw [HSU.out, if_pos HP.out, List.length_append, List.map_append]
              exact HGN.out.grow
            case measure => simp [intOf]; omega
          · replace hp : (A.site.toList == nm.toList) = false := Bool.eq_false_iff.2 hp
            have HP : Hid (atSite nm A = false) := hp
            go_wp2
            go_roundw
            case rel =>
              refine ⟨k + 1, by omega, by go_num, HB.out.trans ((Below.refl _ _).alloc (by omega) _), ?_⟩
              rw [HSU.out, HP.out, if_neg (by simp), List.append_nil]
              exact HG.out.below (lo := 0) In.nil (((Below.refl _ _).alloc (Nat.le_refl _) _))
            case measure => simp [intOf]; omega
        · obtain rfl : k = n.sectors.length := by omega
          rw [List.take_length] at HG
          obtain ⟨av, cv, fv, ev, ov, iv⟩ := HG.out.toOwn (lo := w.heap.size) (by omega) In.nil (by omega)
          subst ev
          go_wp2
          go_ret2
          rw [HE.out]
          exact ⟨av, cv, fv, rfl, BW.out, ov, iv⟩
  · replace hv : netB n = false := Bool.eq_false_iff.2 hv
    have HE : Hid (atR n nm = ([], 1)) := by show _ = _; unfold atR; rw [if_neg (by simp [hv])]
    go_enter Try.func30, Try.ntmps30
    go_wp2_with fail
    refine (HV.out).mono ?_
    rintro e w2 ⟨rfl, hb2⟩
    rw [hv]
    obtain ⟨qa2, _, ya2⟩ := bcellAt hb2 (b := w.heap.size) (by omega)
    have B2 := Lib.hid (B0.out.trans (hb2.mono B0.out.size))
    clear hb2
    go_wp2
    go_ret2
    rw [HE.out]
    exact ⟨none, 0, [], rfl, B2.out, own_nilS _, In.nil⟩
set_option maxHeartbeats 8000000 in
set_option maxRecDepth 100000 in
theorem sSectorsAt_std (n : DNetwork) (nm : ByteArray) (vn0 vn1 vn2 vn3 : Value) (w : World) (rn0 : Rd w.heap.size w (DSite.sT n.sites) vn0) (rn1 : Rd w.heap.size w (DSector.sT n.sectors) vn1) (rn2 : Rd w.heap.size w (DAntenna.sT n.antennas) vn2) (rn3 : Rd w.heap.size w (DRadio.sT n.radios) vn3) (hs_n : sizL n.tr ≤ 1048576) (hk_n : n.ok) (hs_nm : nm.size ≤ 1048576) :
    Calls Try.prog 29 #[.agg #[vn0, vn1, vn2, vn3], .string nm] w (fun e w' => ∃ a0_0 c0_0 fp0, e = .returned (.tuple #[.slice a0_0 (atR n nm).1.length c0_0, .int .i64 (atR n nm).2]) ∧ Below w.heap.size w w' ∧ Own w' (strsT (atR n nm).1) (.slice a0_0 (atR n nm).1.length c0_0) fp0 ∧ In w.heap.size w'.heap.size fp0) := by
  have hq := DNetwork.siz_tr n
  rw [DSite.siz_s, DSector.siz_s, DAntenna.siz_s, DRadio.siz_s] at hq
  obtain ⟨A0, C0, e0, _, _, _⟩ := DSite.rd rn0
  obtain ⟨A1, C1, e1, _, _, _⟩ := DSector.rd rn1
  obtain ⟨A2, C2, e2, _, _, _⟩ := DAntenna.rd rn2
  obtain ⟨A3, C3, e3, _, _, _⟩ := DRadio.rd rn3
  subst e0 e1 e2 e3
  have b0 : Below w.heap.size w (w.alloc (.cells #[.slice A0 n.sites.length C0, .slice A1 n.sectors.length C1, .slice A2 n.antennas.length C2, .slice A3 n.radios.length C3] 40)) := ((Below.refl _ _).alloc (Nat.le_refl _) _)
  have y0 : w.heap.size + 1 ≤ (w.alloc (.cells #[.slice A0 n.sites.length C0, .slice A1 n.sectors.length C1, .slice A2 n.antennas.length C2, .slice A3 n.radios.length C3] 40)).heap.size := by simp
  have hl1 : n.sectors.length ≤ 1048576 := by omega
  have HV := Lib.hid (l14Ok_any n _ _ _ _ w.heap.size (w.alloc (.cells #[.slice A0 n.sites.length C0, .slice A1 n.sectors.length C1, .slice A2 n.antennas.length C2, .slice A3 n.radios.length C3] 40)) ((rn0.below b0).mono b0.size) ((rn1.below b0).mono b0.size) ((rn2.below b0).mono b0.size) ((rn3.below b0).mono b0.size) (by omega) (by simp [go_sem]) (by simp [go_sem]) (by simp [go_sem]) (by simp [go_sem]) (by omega) hk_n)
  have HI : Hid (∀ W : World, Below w.heap.size w W → W.cell? ⟨w.heap.size, 0, none⟩ = some (.slice A0 n.sites.length C0) → Calls Try.prog 39 #[.pointer (some ⟨w.heap.size, 0, none⟩), .string nm] W fun e w' => e = .returned (.int .i64 (idxSite n.sites nm)) ∧ W = w') := fun W hW hc => l14FindSite_any n.sites nm _ w.heap.size w.heap.size W (rn0.below hW) hW.size hc (by omega)
  have HA : Hid (∀ W : World, Below w.heap.size w W → w.heap.size < W.heap.size → W.cell? ⟨w.heap.size, 1, none⟩ = some (.slice A1 n.sectors.length C1) → _) := fun W hW hz hc => l14At_any n nm _ w.heap.size W ((rn1.below hW).mono hW.size) hz hc hl1
  have B0 := Lib.hid b0
  have HR := Lib.hid rn1
  clear b0 rn0 rn1 rn2 rn3
  by_cases hv : netB n = true
  · rcases firstIdx_cases' (fun x : DSite => eqS x.name nm) n.sites with ⟨hi, _⟩ | ⟨k, hk, hi, _, _⟩
    · have HE : Hid (atR n nm = ([], 3)) := by show _ = _; unfold atR; rw [if_pos hv, if_neg (by rw [show idxSite n.sites nm = -1 from hi]; omega)]
      rw [show idxSite n.sites nm = -1 from hi] at HI
      clear hi
      go_enter Try.func29, Try.ntmps29
      go_wp2_with fail
      refine (HV.out).mono ?_
      rintro e w2 ⟨rfl, hb2⟩
      rw [hv]
      obtain ⟨qa2, _, ya2⟩ := bcellAt hb2 (b := w.heap.size) (by omega)
      have B2 := Lib.hid (B0.out.trans (hb2.mono B0.out.size))
      clear hb2
      have t0 : w2.cell? ⟨w.heap.size, 0, none⟩ = some (.slice A0 n.sites.length C0) := by rw [qa2]; simp [go_sem]
      have t1 : w2.cell? ⟨w.heap.size, 1, none⟩ = some (.slice A1 n.sectors.length C1) := by rw [qa2]; simp [go_sem]
      go_wp2_with fail
      refine (HI.out _ B2.out t0).mono ?_
      rintro e w3 ⟨rfl, rfl⟩
      go_wp2
      go_ret2
      rw [HE.out]
      exact ⟨none, 0, [], rfl, B2.out, own_nilS _, In.nil⟩
    · have HE : Hid (atR n nm = (col DSector.name (atSite nm) n.sectors, 0)) := by show _ = _; unfold atR; rw [if_pos hv, if_pos (by rw [show idxSite n.sites nm = (k : Int) from hi]; omega)]
      rw [show idxSite n.sites nm = (k : Int) from hi] at HI
      clear hi
      have i1 : (0 : Int) ≤ (k : Int) := by omega
      go_enter Try.func29, Try.ntmps29
      go_wp2_with fail
      refine (HV.out).mono ?_
      rintro e w2 ⟨rfl, hb2⟩
      rw [hv]
      obtain ⟨qa2, _, ya2⟩ := bcellAt hb2 (b := w.heap.size) (by omega)
      have B2 := Lib.hid (B0.out.trans (hb2.mono B0.out.size))
      clear hb2
      have t0 : w2.cell? ⟨w.heap.size, 0, none⟩ = some (.slice A0 n.sites.length C0) := by rw [qa2]; simp [go_sem]
      have t1 : w2.cell? ⟨w.heap.size, 1, none⟩ = some (.slice A1 n.sectors.length C1) := by rw [qa2]; simp [go_sem]
      go_wp2_with fail
      refine (HI.out _ B2.out t0).mono ?_
      rintro e w3 ⟨rfl, rfl⟩
      go_wp2_with fail
      refine (HA.out _ B2.out ya2 t1).mono ?_
      rintro e w4 ⟨a4, c4, f4, rfl, hb4, o4, i4⟩
      have z2 := B2.out.size
      have B4 := Lib.hid (B2.out.trans (hb4.mono B2.out.size))
      clear hb4
      go_wp2
      go_ret2
      rw [HE.out]
      exact ⟨a4, c4, f4, rfl, B4.out, o4, i4.mono (by omega) (Nat.le_refl _)⟩
  · replace hv : netB n = false := Bool.eq_false_iff.2 hv
    have HE : Hid (atR n nm = ([], 1)) := by show _ = _; unfold atR; rw [if_neg (by simp [hv])]
    go_enter Try.func29, Try.ntmps29
    go_wp2_with fail
    refine (HV.out).mono ?_
    rintro e w2 ⟨rfl, hb2⟩
    rw [hv]
    obtain ⟨qa2, _, ya2⟩ := bcellAt hb2 (b := w.heap.size) (by omega)
    have B2 := Lib.hid (B0.out.trans (hb2.mono B0.out.size))
    clear hb2
    go_wp2
    go_ret2
    rw [HE.out]
    exact ⟨none, 0, [], rfl, B2.out, own_nilS _, In.nil⟩
end Go.Proofs.Ytefefgamiaganaa
