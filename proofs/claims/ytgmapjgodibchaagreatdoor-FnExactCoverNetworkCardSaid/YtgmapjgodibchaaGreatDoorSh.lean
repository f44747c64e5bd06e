/- Short words: they elaborate to what they stand for. -/
import Derived.RowKit
import Derived.Lib.Hide
import Derived.KernelRfl
namespace Go.Proofs.YtgmapjgodibchaaGreatDoor
open Go.RowKit
universe u
inductive WI | mk
instance : CoeFun WI (fun _ => Int → Value) := ⟨fun _ => Value.int .i64⟩
abbrev I : WI := .mk
inductive WF | mk
instance : CoeFun WF (fun _ => ByteArray → Value) := ⟨fun _ => Value.string⟩
abbrev F : WF := .mk
inductive WII | mk
instance : CoeFun WII (fun _ => Option Addr → Nat → Nat → Value) := ⟨fun _ => Value.slice⟩
abbrev II : WII := .mk
inductive WIJ | mk
instance : CoeFun WIJ (fun _ => Nat → World → World → Prop) := ⟨fun _ => Below⟩
abbrev IJ : WIJ := .mk
instance : Coe World Nat := ⟨fun w => w.heap.size⟩
theorem O {p : Prop} (h : p := by omega) : p := h
theorem OO {p : Prop} (h : p := by first | omega | (simp; done) | (simp <;> omega)) : p := h
theorem OJ {p : Prop} (h : p := by kernel_rfl) : p := h
theorem J {p : Prop} (h : p) : Hid p := Lib.hid h
theorem IQ {α : Type u} (l : List α) (i : Nat) (a : α) : l.toArray.setIfInBounds i a = (l.set i a).toArray := List.setIfInBounds_toArray l i a
theorem IZ {α : Type u} {x : α} {xs : List α} {a : α} : (x :: xs).set 0 a = a :: xs := List.set_cons_zero
theorem OI {α : Type u} {x : α} {xs : List α} {i : Nat} {a : α} : (x :: xs).set (i + 1) a = x :: xs.set i a := List.set_cons_succ
end Go.Proofs.YtgmapjgodibchaaGreatDoor
