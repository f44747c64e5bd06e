/- Short words: they elaborate to what they stand for. -/
import Derived.RowKit
import Derived.Lib.Hide
import Derived.KernelRfl
namespace Go.Proofs.YtpakghepnahooaaGreatDoor
open Go.RowKit
universe u
inductive WJ | mk
instance : CoeFun WJ (fun _ => Int → Value) := ⟨fun _ => Value.int .i64⟩
abbrev J : WJ := .mk
inductive WIQ | mk
instance : CoeFun WIQ (fun _ => ByteArray → Value) := ⟨fun _ => Value.string⟩
abbrev IQ : WIQ := .mk
inductive WIZ | mk
instance : CoeFun WIZ (fun _ => Option Addr → Nat → Nat → Value) := ⟨fun _ => Value.slice⟩
abbrev IZ : WIZ := .mk
inductive WOI | mk
instance : CoeFun WOI (fun _ => Nat → World → World → Prop) := ⟨fun _ => Below⟩
abbrev OI : WOI := .mk
instance : Coe World Nat := ⟨fun w => w.heap.size⟩
theorem II {p : Prop} (h : p := by omega) : p := h
theorem OZ {p : Prop} (h : p := by first | omega | (simp; done) | (simp <;> omega)) : p := h
theorem JI {p : Prop} (h : p := by kernel_rfl) : p := h
theorem IJ {p : Prop} (h : p) : Hid p := Lib.hid h
theorem OO {α : Type u} (l : List α) (i : Nat) (a : α) : l.toArray.setIfInBounds i a = (l.set i a).toArray := List.setIfInBounds_toArray l i a
theorem OJ {α : Type u} {x : α} {xs : List α} {a : α} : (x :: xs).set 0 a = a :: xs := List.set_cons_zero
theorem OQ {α : Type u} {x : α} {xs : List α} {i : Nat} {a : α} : (x :: xs).set (i + 1) a = x :: xs.set i a := List.set_cons_succ
instance (W : World) (b j : Nat) (v : Value) : CoeDep (World × Nat × Nat × Value) (W, b, j, v) Prop := ⟨W.cell? ⟨b, j, none⟩ = some v⟩
end Go.Proofs.YtpakghepnahooaaGreatDoor
