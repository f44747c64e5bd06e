/- From cells that fit a type to the Lean structures. -/
import Derived.Test.YtpodllefipleiaaGreatDoorOpen
set_option linter.unusedVariables false
set_option linter.unusedSimpArgs false
namespace Go.Proofs.YtpodllefipleiaaGreatDoor
open Go.RowKit
theorem fits_of {α:Type} (g:α→List Tr) (ok:α→Prop) (ys:List Ty) (hfit:∀ ts,FitV ys ts→∃ x,ts=g x∧ok x) {t:Tr} (h:Fit (.sl ys) t):∃ l:List α,t=.sl ys.length (l.flatMap g)∧∀ x ∈ l,ok x:=by
 obtain⟨ess,rfl,hes⟩:=Fit_sl.1 h;have key:∀ (ess:List (List Tr)),(∀ es ∈ ess,FitV ys es)→∃ l:List α,ess.flatten=l.flatMap g∧∀ x ∈ l,ok x:=by
  intro ess
  induction ess with
  | nil=>intro _;exact⟨[],rfl,fun x h=>by simp at h⟩
  | cons es ess ih =>
   intro hh;obtain⟨l,h1,h2⟩:=ih (fun x hx=>hh x (by simp[hx]));obtain⟨x,rfl,hx⟩:=hfit es (hh es (by simp));refine⟨x::l,by rw[List.flatten_cons,List.flatMap_cons,h1],fun y hy=>?_⟩
   rcases List.mem_cons.1 hy with rfl|hy
   ·exact hx
   ·exact h2 y hy
 obtain⟨l,h1,h2⟩:=key ess hes;exact⟨l,by rw[h1],h2⟩
theorem fit_bytes {t:Tr} (h:Fit (.sl [.byte]) t):∃ l:List UInt8,t=.sl 1 (l.map fun b=>.lit (.int .u8 (b.toNat:Int))):=by
 obtain⟨l,rfl,hk⟩:=fits_of (fun b:UInt8=>[Tr.lit (.int .u8 (b.toNat:Int))]) (fun _=>True) [.byte] (fun ts h=>by
  obtain⟨t,r,rfl,h1,h2⟩:=zap.1 h;obtain⟨n,rfl⟩:=Fit_byte.1 h1;rw[zav] at h2;subst h2
  exact⟨n,rfl,trivial⟩) h
 exact⟨l,by rw[map_flat];rfl⟩
def DSample.ty:List Ty:=[.int,.int]
end Go.Proofs.YtpodllefipleiaaGreatDoor
