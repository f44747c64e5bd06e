/- Contract: the names of the sectors of a site (reference). Conditions: bounded sizes. -/
import Derived.Test.YtppgcgopnchbcaaGreatNetG0
import Derived.Test.YtppgcgopnchbcaaGreatClone
namespace Go.Proofs.YtppgcgopnchbcaaGreat
open Go.RowKit
set_option linter.unusedVariables false
set_option linter.unusedSimpArgs false
/-- what is collected from a list -/
def col {α β : Type} (f : α → β) (p : α → Bool) (l : List α) : List β := (l.filter p).map f
theorem col_take_succ {α β : Type} (f : α → β) (p : α → Bool) (l : List α) (k : Nat) (h : k < l.length) : col f p (l.take (k + 1)) = col f p (l.take k) ++ (if p l[k] = true then [f l[k]] else []) := by
  unfold col
  rw [List.take_succ_eq_append_getElem h, List.filter_append, List.map_append]
  congr 1
  by_cases hp : p l[k] = true <;> simp [List.filter_cons, hp]
theorem col_len {α β : Type} (f : α → β) (p : α → Bool) (l : List α) : (col f p l).length ≤ l.length := by
  unfold col; rw [List.length_map]; exact List.length_filter_le _ _
theorem infoStr : (Tryz.prog.info? 9).map (fun i => (i.zero, i.size, i.bytes)) = some (some (.string ⟨#[]⟩), 1, 16) := by kernel_rfl
def atSite (nm : ByteArray) (x : DSector) : Bool := eqS x.site nm
theorem grow_empty1 (w : World) (E : Nat) : Grow (w.alloc (.cells #[] E)) w.heap.size E 1 (.slice (some ⟨w.heap.size, 0, none⟩) 0 0) 0 [] [] := grow_empty w E
set_option maxHeartbeats 4000000 in
set_option maxRecDepth 100000 in
theorem l14At_any (n : DNetwork) (nm : ByteArray) (v1 : Value) (bp : Nat) (w : World) (r1 : Rd w.heap.size w (DSector.sT n.sectors) v1) (hbn : bp < w.heap.size) (hn1 : w.cell? ⟨bp, 1, none⟩ = some v1) (l1 : n.sectors.length ≤ 1048576) :
    Calls Tryz.prog 66 #[.pointer (some ⟨bp, 0, none⟩), .string nm] w fun e w' => ∃ a c fp, e = .returned (.slice a (col DSector.name (atSite nm) n.sectors).length c) ∧ Below w.heap.size w w' ∧ Own w' (strsT (col DSector.name (atSite nm) n.sectors)) (.slice a (col DSector.name (atSite nm) n.sectors).length c) fp ∧ In w.heap.size w'.heap.size fp := by
  have HR := Lib.hid r1
  obtain ⟨A1, C1, e1, _, _, _⟩ := DSector.rd r1
  subst e1
  clear r1
  have hbase : w.heap.size ≤ w.heap.size := Nat.le_refl _
  have BS : Hid (Below w.heap.size w w) := Below.refl _ _
  obtain ⟨a', c', e', _, _, hcl⟩ := DSector.rd HR.out
  injection e' with e1 _ e3
  subst e1 e3
  have HCL := Lib.hid hcl
  clear hcl
  go_enter Tryz.func66, Tryz.ntmps66
  go_wp2
  obtain ⟨i0, hi0, hz0, hz1, hz2⟩ := info_parts infoStr
  go_loopw [5, 6] (fun out i wr => ∃ (k : Nat), k ≤ n.sectors.length ∧ i = .int .i64 k ∧ Below (w.heap.size) w wr ∧ Grow wr (w.heap.size) 9 1 out (col DSector.name (atSite nm) (n.sectors.take k)).length ((col DSector.name (atSite nm) (n.sectors.take k)).map strT) []) (fun _ i wr => n.sectors.length - (intOf i).toNat)
  case atStart => exact ⟨0, Nat.zero_le _, rfl, (Below.refl _ _).alloc (Nat.le_refl _) _, by simpa [col] using grow_empty1 w 9⟩
  case round =>
    obtain ⟨k, hk, rfl, hb, hgr⟩ := hrel
    have HB := Lib.hid hb
    have HG := Lib.hid hgr
    have zr := hb.size
    clear hb hgr
    have n1 : wr.cell? ⟨bp, 1, none⟩ = some (.slice A1 n.sectors.length C1) := by rw [bat HB.out (bp) 1 hbn]; exact hn1
    have yn : bp < wr.heap.size := by omega
    have BW := Lib.hid (BS.out.trans (HB.out.mono hbase))
    have hcl1 := col_len DSector.name (atSite nm) (n.sectors.take k)
    rw [List.length_take] at hcl1
    by_cases hlt : k < n.sectors.length
    · obtain ⟨b, off, ea, hbl, hat⟩ := HCL.out (by omega)
      subst ea
      obtain ⟨s0, s1, s2, s3, s4, s5, s6, s7, s8⟩ := hat k hlt
      rw [← bat BW.out b _ hbl] at s0 s1 s2 s3 s4 s5 s6 s7 s8
      clear hat
      have HSU := Lib.hid (col_take_succ DSector.name (atSite nm) n.sectors k hlt)
      have yb : b < wr.heap.size := by have := BW.out.size; omega
      generalize hA : n.sectors[k] = A at *
      clear hA
      by_cases hp : (A.site.toList == nm.toList) = true
      · have HP : Hid (atSite nm A = true) := hp
        go_wp2_with (at_builtin; refine wpList_append1 rfl (.tmp 27) (.tmp 36) _ rfl (w.heap.size) 9 i0 _ 1 16 Tryz.underlying95 hi0 hz0 hz1 hz2 rfl (by omega) _ _ _ [] rfl HG.out [.string A.name] [strT A.name] [] rfl 1 rfl (fun u hu => by simp at hu; subst hu; rfl) (RepV.lits [.string A.name]) List.nodup_nil (fun b h => by simp at h) 0 In.nil In.nil (by simp) (by simp) (by unfold maxLen; omega) (by omega) (by omega) ?_; intro v2 w2 hgn)
        have HGN := Lib.hid hgn
        clear hgn
        go_wp2
        go_roundw
        case rel =>
          refine ⟨k + 1, by omega, by go_num, HB.out.trans (Below.trans (Below.refl _ _) HGN.out.below), ?_⟩
          rw [HSU.out, if_pos HP.out, List.length_append, List.map_append]
          exact HGN.out.grow
        case measure => simp [intOf]; omega
      · replace hp : (A.site.toList == nm.toList) = false := Bool.eq_false_iff.2 hp
        have HP : Hid (atSite nm A = false) := hp
        go_wp2
        go_roundw
        case rel =>
          refine ⟨k + 1, by omega, by go_num, HB.out, ?_⟩
          rw [HSU.out, HP.out, if_neg (by simp), List.append_nil]
          exact HG.out
        case measure => simp [intOf]; omega
    · obtain rfl : k = n.sectors.length := by omega
      rw [List.take_length] at HG
      obtain ⟨av, cv, fv, ev, ov, iv⟩ := HG.out.toOwn (lo := w.heap.size) (by omega) In.nil (by omega)
      subst ev
      go_wp2
      go_ret
      exact ⟨av, cv, fv, rfl, BW.out, ov, iv⟩
theorem col_any {α β : Type} (f : α → β) (p : α → Bool) (l : List α) (h : l.any p = true) : 0 < (col f p l).length := by
  obtain ⟨x, hx, hp⟩ := List.any_eq_true.1 h
  unfold col
  rw [List.length_map]
  exact List.length_pos_of_mem (List.mem_filter.2 ⟨hx, hp⟩)
theorem col_none {α β : Type} (f : α → β) (p : α → Bool) (l : List α) (h : l.any p = false) : (col f p l).length = 0 := by
  unfold col
  rw [List.length_map, List.length_eq_zero_iff, List.filter_eq_nil_iff]
  intro x hx
  exact List.any_eq_false.1 h x hx
end Go.Proofs.YtppgcgopnchbcaaGreat
