/- Contracts: a filed request is answered and withdrawn. Conditions: valid requests, bounded texts. -/
import Derived.Test.YtpodllefipleiaaGreatDoorTq6
set_option linter.unusedVariables false
set_option linter.unusedSimpArgs false
namespace Go.Proofs.YtpodllefipleiaaGreatDoor
open Go.RowKit
def SetQ (L:List DRequest) (c:Int) (w:World) (e:Ending) (w':World):Prop:=Below w.heap.size w w'∧(c≠0→e=.returned (.tuple #[.slice none 0 0,.int .i64 c]))∧(c=0→∃ (a:Option Addr) (cp:Nat) (fp:List Nat),e=.returned (.tuple #[.slice a L.length cp,.int .i64 0])∧Own w' (DRequest.sT L) (.slice a L.length cp) fp∧In w.heap.size w'.heap.size fp)
theorem insAt_mem {l:List DRequest} {y z:DRequest} {k:Nat} (h:z ∈ zao l y k):z ∈ l∨z=y:=by
 unfold zao at h
 rcases List.mem_append.1 h with h|h
 ·exact Or.inl (List.mem_of_mem_take h)
 ·rcases List.mem_cons.1 h with h|h
  ·exact Or.inr h
  ·exact Or.inl (List.mem_of_mem_drop h)
theorem setQ_of {l:List DRequest} {y:DRequest} {k:Nat} (hk:k≤l.length) (s:Int) {hi:k<(zao l y k).length} {c c':Int} (hc:c=c') {w:World} {e:Ending} {w':World} (h:SetP (zao l y k) k hi s c w e w'):SetQ (zao l (zai y s) k) c' w e w':=by
 subst hc;obtain⟨h1,h2,h3⟩:=h;refine⟨h1,h2,fun hz=>?_⟩;obtain⟨a,cp,fp,he,ho,hin⟩:=h3 hz;rw[zcx hk hi,insAt_set l y (zai y s) hk] at ho;rw[zaz l y hk] at he ho;rw[zaz l (zai y s) hk];exact⟨a,cp,fp,he,ho,hin⟩
theorem ansC_at {l:List DRequest} {y:DRequest} {k:Nat} (hk:k≤l.length) (hi:k<(zao l y k).length) (day:Int):ansC (zao l y k)[k] day=ansC y day:=by rw[zcx hk hi]
theorem wdC_at {l:List DRequest} {y:DRequest} {k:Nat} (hk:k≤l.length) (hi:k<(zao l y k).length):wdC (zao l y k)[k]=wdC y:=by rw[zcx hk hi]
section
variable {l:List DRequest} {y:DRequest} {k:Nat}
theorem ins_lt (hk:k≤l.length):k<(zao l y k).length:=by rw[zaz l y hk];omega
theorem ins_oks (hl:∀ z ∈ l,z.ok) (hy:y.ok):∀ z ∈ zao l y k,z.ok:=fun z hz=>by
 rcases insAt_mem hz with h|rfl
 ·exact hl z h
 ·exact hy
end
theorem answer_ins (l:List DRequest) (y:DRequest) (k:Nat) (hk:k≤l.length) (hno:l.any (fun z:DRequest=>eqS z.id y.id)=false) (ag:Bool) (day:Int) (v:Value) (w:World) (h:Rd w.heap.size w (DRequest.sT (zao l y k)) v) (hl:∀ z ∈ l,z.ok) (hy:y.ok) (hn:l.length≤900) (hv:za6 (zao l y k)=true) :
  Calls Tryz.prog 19 #[v,.string y.id,.bool ag,.int .i64 day] w (SetQ (zao l (zai y (if ag then 2 else 3)) k) (ansC y day) w) :=
 (answer_any (zao l y k) y.id ag day k (ins_lt hk) v w h (ins_oks hl hy) (by rw[zaz l y hk];omega) hv (ins_idx hk hno)).mono fun e w' hp=>setQ_of hk _ (ansC_at hk _ day) hp
theorem answer_yes (l:List DRequest) (y:DRequest) (k:Nat) (hk:k≤l.length) (hno:l.any (fun z:DRequest=>eqS z.id y.id)=false) (day:Int) (v:Value) (w:World) (h:Rd w.heap.size w (DRequest.sT (zao l y k)) v) (hl:∀ z ∈ l,z.ok) (hy:y.ok) (hn:l.length≤900) (hv:za6 (zao l y k)=true) :
  Calls Tryz.prog 19 #[v,.string y.id,.bool true,.int .i64 day] w (SetQ (zao l (zai y 2) k) (ansC y day) w):=answer_ins l y k hk hno true day v w h hl hy hn hv
theorem answer_no (l:List DRequest) (y:DRequest) (k:Nat) (hk:k≤l.length) (hno:l.any (fun z:DRequest=>eqS z.id y.id)=false) (day:Int) (v:Value) (w:World) (h:Rd w.heap.size w (DRequest.sT (zao l y k)) v) (hl:∀ z ∈ l,z.ok) (hy:y.ok) (hn:l.length≤900) (hv:za6 (zao l y k)=true) :
  Calls Tryz.prog 19 #[v,.string y.id,.bool false,.int .i64 day] w (SetQ (zao l (zai y 3) k) (ansC y day) w):=answer_ins l y k hk hno false day v w h hl hy hn hv
theorem withdraw_ins (l:List DRequest) (y:DRequest) (k:Nat) (hk:k≤l.length) (hno:l.any (fun z:DRequest=>eqS z.id y.id)=false) (v:Value) (w:World) (h:Rd w.heap.size w (DRequest.sT (zao l y k)) v) (hl:∀ z ∈ l,z.ok) (hy:y.ok) (hn:l.length≤900) (hv:za6 (zao l y k)=true) :
  Calls Tryz.prog 20 #[v,.string y.id] w (SetQ (zao l (zai y 4) k) (wdC y) w) :=
 (withdraw_any (zao l y k) y.id k (ins_lt hk) v w h (ins_oks hl hy) (by rw[zaz l y hk];omega) hv (ins_idx hk hno)).mono fun e w' hp=>setQ_of hk _ (wdC_at hk _) hp
end Go.Proofs.YtpodllefipleiaaGreatDoor
