/- From cells that fit a type to the Lean structures. -/
import Derived.Test.YtjfmkmcefnidcaaGreatOpen
namespace Go.Proofs.YtjfmkmcefnidcaaGreat
open Go.RowKit
set_option linter.unusedVariables false
theorem fits_of {α:Type} (g:α→List Tr) (ok:α→Prop) (ys:List Ty) (hfit:∀ ts,FitV ys ts→∃ x,ts=g x∧ok x) {t:Tr} (h:Fit (.sl ys) t):∃ l:List α,t=.sl ys.length (l.flatMap g)∧∀ x ∈ l,ok x:=by
 obtain⟨ess,rfl,hes⟩:=Fit_sl.1 h
 have key:∀ (ess:List (List Tr)),(∀ es ∈ ess,FitV ys es)→∃ l:List α,ess.flatten=l.flatMap g∧∀ x ∈ l,ok x:=by
  intro ess
  induction ess with
  | nil=>intro _;exact⟨[],rfl,fun x h=>by simp at h⟩
  | cons es ess ih =>
   intro hh
   obtain⟨l,h1,h2⟩:=ih (fun x hx=>hh x (by simp[hx]))
   obtain⟨x,rfl,hx⟩:=hfit es (hh es (by simp))
   refine⟨x::l,by rw[List.flatten_cons,List.flatMap_cons,h1],fun y hy=>?_⟩
   rcases List.mem_cons.1 hy with rfl|hy
   ·exact hx
   ·exact h2 y hy
 obtain⟨l,h1,h2⟩:=key ess hes
 exact⟨l,by rw[h1],h2⟩
theorem fit_ints {t:Tr} (h:Fit (.sl [.int]) t):∃ l:List Int,t=intsT l∧∀ n ∈ l,I64 n:=by
 obtain⟨l,rfl,hk⟩:=fits_of (fun n:Int=>[intT n]) I64 [.int] (fun ts h=>by
  obtain⟨t,r,rfl,h1,h2⟩:=FitV_cons.1 h
  obtain⟨n,rfl,hn⟩:=Fit_int.1 h1
  rw[FitV_nil] at h2;subst h2
  exact⟨n,rfl,hn⟩) h
 exact⟨l,by rw[intsT,map_flat];rfl,hk⟩
theorem fit_strs {t:Tr} (h:Fit (.sl [.str]) t):∃ l:List ByteArray,t=strsT l∧∀ s ∈ l,s.size≤maxLen:=by
 obtain⟨l,rfl,hk⟩:=fits_of (fun n:ByteArray=>[strT n]) (fun s=>s.size≤maxLen) [.str] (fun ts h=>by
  obtain⟨t,r,rfl,h1,h2⟩:=FitV_cons.1 h
  obtain⟨n,rfl,hn⟩:=Fit_str.1 h1
  rw[FitV_nil] at h2;subst h2
  exact⟨n,rfl,hn⟩) h
 exact⟨l,by rw[strsT,map_flat];rfl,hk⟩
theorem fit_intss {t:Tr} (h:Fit (.sl [.sl [.int]]) t):∃ l:List (List Int),t=intssT l∧∀ r ∈ l,∀ n ∈ r,I64 n:=by
 obtain⟨l,rfl,hk⟩:=fits_of (fun r:List Int=>[intsT r]) (fun r=>∀ n ∈ r,I64 n) [.sl [.int]] (fun ts h=>by
  obtain⟨t,r,rfl,h1,h2⟩:=FitV_cons.1 h
  obtain⟨n,rfl,hn⟩:=fit_ints h1
  rw[FitV_nil] at h2;subst h2
  exact⟨n,rfl,hn⟩) h
 exact⟨l,by rw[intssT,map_flat];rfl,hk⟩
def DPoint.ty:List Ty:=[.int,.int]
theorem DPoint.fit {ts:List Tr} (h0:FitV DPoint.ty ts):∃ x:DPoint,ts=x.tr∧x.ok:=by
 unfold DPoint.ty at h0
 obtain⟨t0,r0,rfl,f0,h1⟩:=FitV_cons.1 h0
 obtain⟨n0,rfl,b0⟩:=Fit_int.1 f0
 obtain⟨t1,r1,rfl,f1,h2⟩:=FitV_cons.1 h1
 obtain⟨n1,rfl,b1⟩:=Fit_int.1 f1
 rw[FitV_nil] at h2;subst h2
 exact⟨⟨n0,n1⟩,rfl,⟨b0,b1⟩⟩
theorem DPoint.fits {t:Tr} (h:Fit (.sl DPoint.ty) t):∃ l:List DPoint,t=DPoint.sT l∧∀ x ∈ l,x.ok:=fits_of DPoint.tr DPoint.ok DPoint.ty (fun ts h=>DPoint.fit h) h
def DMode.ty:List Ty:=[.int,.int]
theorem DMode.fit {ts:List Tr} (h0:FitV DMode.ty ts):∃ x:DMode,ts=x.tr∧x.ok:=by
 unfold DMode.ty at h0
 obtain⟨t0,r0,rfl,f0,h1⟩:=FitV_cons.1 h0
 obtain⟨n0,rfl,b0⟩:=Fit_int.1 f0
 obtain⟨t1,r1,rfl,f1,h2⟩:=FitV_cons.1 h1
 obtain⟨n1,rfl,b1⟩:=Fit_int.1 f1
 rw[FitV_nil] at h2;subst h2
 exact⟨⟨n0,n1⟩,rfl,⟨b0,b1⟩⟩
theorem DMode.fits {t:Tr} (h:Fit (.sl DMode.ty) t):∃ l:List DMode,t=DMode.sT l∧∀ x ∈ l,x.ok:=fits_of DMode.tr DMode.ok DMode.ty (fun ts h=>DMode.fit h) h
def DArea.ty:List Ty:=[.int,.int,.int,.int]
theorem DArea.fit {ts:List Tr} (h0:FitV DArea.ty ts):∃ x:DArea,ts=x.tr∧x.ok:=by
 unfold DArea.ty at h0
 obtain⟨t0,r0,rfl,f0,h1⟩:=FitV_cons.1 h0
 obtain⟨n0,rfl,b0⟩:=Fit_int.1 f0
 obtain⟨t1,r1,rfl,f1,h2⟩:=FitV_cons.1 h1
 obtain⟨n1,rfl,b1⟩:=Fit_int.1 f1
 obtain⟨t2,r2,rfl,f2,h3⟩:=FitV_cons.1 h2
 obtain⟨n2,rfl,b2⟩:=Fit_int.1 f2
 obtain⟨t3,r3,rfl,f3,h4⟩:=FitV_cons.1 h3
 obtain⟨n3,rfl,b3⟩:=Fit_int.1 f3
 rw[FitV_nil] at h4;subst h4
 exact⟨⟨n0,n1,n2,n3⟩,rfl,⟨b0,b1,b2,b3⟩⟩
theorem DArea.fits {t:Tr} (h:Fit (.sl DArea.ty) t):∃ l:List DArea,t=DArea.sT l∧∀ x ∈ l,x.ok:=fits_of DArea.tr DArea.ok DArea.ty (fun ts h=>DArea.fit h) h
def DEnd.ty:List Ty:=[.int,.int,.int]
theorem DEnd.fit {ts:List Tr} (h0:FitV DEnd.ty ts):∃ x:DEnd,ts=x.tr∧x.ok:=by
 unfold DEnd.ty at h0
 obtain⟨t0,r0,rfl,f0,h1⟩:=FitV_cons.1 h0
 obtain⟨n0,rfl,b0⟩:=Fit_int.1 f0
 obtain⟨t1,r1,rfl,f1,h2⟩:=FitV_cons.1 h1
 obtain⟨n1,rfl,b1⟩:=Fit_int.1 f1
 obtain⟨t2,r2,rfl,f2,h3⟩:=FitV_cons.1 h2
 obtain⟨n2,rfl,b2⟩:=Fit_int.1 f2
 rw[FitV_nil] at h3;subst h3
 exact⟨⟨⟨n0,n1⟩,n2⟩,rfl,⟨⟨b0,b1⟩,b2⟩⟩
theorem DEnd.fits {t:Tr} (h:Fit (.sl DEnd.ty) t):∃ l:List DEnd,t=DEnd.sT l∧∀ x ∈ l,x.ok:=fits_of DEnd.tr DEnd.ok DEnd.ty (fun ts h=>DEnd.fit h) h
def DSite.ty:List Ty:=[.str,.str,.int,.int]
theorem DSite.fit {ts:List Tr} (h0:FitV DSite.ty ts):∃ x:DSite,ts=x.tr∧x.ok:=by
 unfold DSite.ty at h0
 obtain⟨t0,r0,rfl,f0,h1⟩:=FitV_cons.1 h0
 obtain⟨n0,rfl,b0⟩:=Fit_str.1 f0
 obtain⟨t1,r1,rfl,f1,h2⟩:=FitV_cons.1 h1
 obtain⟨n1,rfl,b1⟩:=Fit_str.1 f1
 obtain⟨t2,r2,rfl,f2,h3⟩:=FitV_cons.1 h2
 obtain⟨n2,rfl,b2⟩:=Fit_int.1 f2
 obtain⟨t3,r3,rfl,f3,h4⟩:=FitV_cons.1 h3
 obtain⟨n3,rfl,b3⟩:=Fit_int.1 f3
 rw[FitV_nil] at h4;subst h4
 exact⟨⟨n0,n1,⟨n2,n3⟩⟩,rfl,⟨b0,b1,⟨b2,b3⟩⟩⟩
theorem DSite.fits {t:Tr} (h:Fit (.sl DSite.ty) t):∃ l:List DSite,t=DSite.sT l∧∀ x ∈ l,x.ok:=fits_of DSite.tr DSite.ok DSite.ty (fun ts h=>DSite.fit h) h
def DSector.ty:List Ty:=[.str,.str,.str,.str,.str,.int,.int,.int,.int]
theorem DSector.fit {ts:List Tr} (h0:FitV DSector.ty ts):∃ x:DSector,ts=x.tr∧x.ok:=by
 unfold DSector.ty at h0
 obtain⟨t0,r0,rfl,f0,h1⟩:=FitV_cons.1 h0
 obtain⟨n0,rfl,b0⟩:=Fit_str.1 f0
 obtain⟨t1,r1,rfl,f1,h2⟩:=FitV_cons.1 h1
 obtain⟨n1,rfl,b1⟩:=Fit_str.1 f1
 obtain⟨t2,r2,rfl,f2,h3⟩:=FitV_cons.1 h2
 obtain⟨n2,rfl,b2⟩:=Fit_str.1 f2
 obtain⟨t3,r3,rfl,f3,h4⟩:=FitV_cons.1 h3
 obtain⟨n3,rfl,b3⟩:=Fit_str.1 f3
 obtain⟨t4,r4,rfl,f4,h5⟩:=FitV_cons.1 h4
 obtain⟨n4,rfl,b4⟩:=Fit_str.1 f4
 obtain⟨t5,r5,rfl,f5,h6⟩:=FitV_cons.1 h5
 obtain⟨n5,rfl,b5⟩:=Fit_int.1 f5
 obtain⟨t6,r6,rfl,f6,h7⟩:=FitV_cons.1 h6
 obtain⟨n6,rfl,b6⟩:=Fit_int.1 f6
 obtain⟨t7,r7,rfl,f7,h8⟩:=FitV_cons.1 h7
 obtain⟨n7,rfl,b7⟩:=Fit_int.1 f7
 obtain⟨t8,r8,rfl,f8,h9⟩:=FitV_cons.1 h8
 obtain⟨n8,rfl,b8⟩:=Fit_int.1 f8
 rw[FitV_nil] at h9;subst h9
 exact⟨⟨n0,n1,n2,n3,n4,n5,n6,n7,n8⟩,rfl,⟨b0,b1,b2,b3,b4,b5,b6,b7,b8⟩⟩
theorem DSector.fits {t:Tr} (h:Fit (.sl DSector.ty) t):∃ l:List DSector,t=DSector.sT l∧∀ x ∈ l,x.ok:=fits_of DSector.tr DSector.ok DSector.ty (fun ts h=>DSector.fit h) h
def DAntenna.ty:List Ty:=[.str,.int,.sl [.int],.sl [.int]]
theorem DAntenna.fit {ts:List Tr} (h0:FitV DAntenna.ty ts):∃ x:DAntenna,ts=x.tr∧x.ok:=by
 unfold DAntenna.ty at h0
 obtain⟨t0,r0,rfl,f0,h1⟩:=FitV_cons.1 h0
 obtain⟨n0,rfl,b0⟩:=Fit_str.1 f0
 obtain⟨t1,r1,rfl,f1,h2⟩:=FitV_cons.1 h1
 obtain⟨n1,rfl,b1⟩:=Fit_int.1 f1
 obtain⟨t2,r2,rfl,f2,h3⟩:=FitV_cons.1 h2
 obtain⟨n2,rfl,b2⟩:=fit_ints f2
 obtain⟨t3,r3,rfl,f3,h4⟩:=FitV_cons.1 h3
 obtain⟨n3,rfl,b3⟩:=fit_ints f3
 rw[FitV_nil] at h4;subst h4
 exact⟨⟨n0,n1,n2,n3⟩,rfl,⟨b0,b1,b2,b3⟩⟩
theorem DAntenna.fits {t:Tr} (h:Fit (.sl DAntenna.ty) t):∃ l:List DAntenna,t=DAntenna.sT l∧∀ x ∈ l,x.ok:=fits_of DAntenna.tr DAntenna.ok DAntenna.ty (fun ts h=>DAntenna.fit h) h
def DRadio.ty:List Ty:=[.str,.int,.int,.int,.int,.sl DMode.ty]
theorem DRadio.fit {ts:List Tr} (h0:FitV DRadio.ty ts):∃ x:DRadio,ts=x.tr∧x.ok:=by
 unfold DRadio.ty at h0
 obtain⟨t0,r0,rfl,f0,h1⟩:=FitV_cons.1 h0
 obtain⟨n0,rfl,b0⟩:=Fit_str.1 f0
 obtain⟨t1,r1,rfl,f1,h2⟩:=FitV_cons.1 h1
 obtain⟨n1,rfl,b1⟩:=Fit_int.1 f1
 obtain⟨t2,r2,rfl,f2,h3⟩:=FitV_cons.1 h2
 obtain⟨n2,rfl,b2⟩:=Fit_int.1 f2
 obtain⟨t3,r3,rfl,f3,h4⟩:=FitV_cons.1 h3
 obtain⟨n3,rfl,b3⟩:=Fit_int.1 f3
 obtain⟨t4,r4,rfl,f4,h5⟩:=FitV_cons.1 h4
 obtain⟨n4,rfl,b4⟩:=Fit_int.1 f4
 obtain⟨t5,r5,rfl,f5,h6⟩:=FitV_cons.1 h5
 obtain⟨n5,rfl,b5⟩:=DMode.fits f5
 rw[FitV_nil] at h6;subst h6
 exact⟨⟨n0,n1,n2,n3,n4,n5⟩,rfl,⟨b0,b1,b2,b3,b4,b5⟩⟩
theorem DRadio.fits {t:Tr} (h:Fit (.sl DRadio.ty) t):∃ l:List DRadio,t=DRadio.sT l∧∀ x ∈ l,x.ok:=fits_of DRadio.tr DRadio.ok DRadio.ty (fun ts h=>DRadio.fit h) h
def DNetwork.ty:List Ty:=[.sl DSite.ty,.sl DSector.ty,.sl DAntenna.ty,.sl DRadio.ty]
theorem DNetwork.fit {ts:List Tr} (h0:FitV DNetwork.ty ts):∃ x:DNetwork,ts=x.tr∧x.ok:=by
 unfold DNetwork.ty at h0
 obtain⟨t0,r0,rfl,f0,h1⟩:=FitV_cons.1 h0
 obtain⟨n0,rfl,b0⟩:=DSite.fits f0
 obtain⟨t1,r1,rfl,f1,h2⟩:=FitV_cons.1 h1
 obtain⟨n1,rfl,b1⟩:=DSector.fits f1
 obtain⟨t2,r2,rfl,f2,h3⟩:=FitV_cons.1 h2
 obtain⟨n2,rfl,b2⟩:=DAntenna.fits f2
 obtain⟨t3,r3,rfl,f3,h4⟩:=FitV_cons.1 h3
 obtain⟨n3,rfl,b3⟩:=DRadio.fits f3
 rw[FitV_nil] at h4;subst h4
 exact⟨⟨n0,n1,n2,n3⟩,rfl,⟨b0,b1,b2,b3⟩⟩
theorem DNetwork.fits {t:Tr} (h:Fit (.sl DNetwork.ty) t):∃ l:List DNetwork,t=DNetwork.sT l∧∀ x ∈ l,x.ok:=fits_of DNetwork.tr DNetwork.ok DNetwork.ty (fun ts h=>DNetwork.fit h) h
def DBand.ty:List Ty:=[.str,.int,.int,.int,.int]
theorem DBand.fit {ts:List Tr} (h0:FitV DBand.ty ts):∃ x:DBand,ts=x.tr∧x.ok:=by
 unfold DBand.ty at h0
 obtain⟨t0,r0,rfl,f0,h1⟩:=FitV_cons.1 h0
 obtain⟨n0,rfl,b0⟩:=Fit_str.1 f0
 obtain⟨t1,r1,rfl,f1,h2⟩:=FitV_cons.1 h1
 obtain⟨n1,rfl,b1⟩:=Fit_int.1 f1
 obtain⟨t2,r2,rfl,f2,h3⟩:=FitV_cons.1 h2
 obtain⟨n2,rfl,b2⟩:=Fit_int.1 f2
 obtain⟨t3,r3,rfl,f3,h4⟩:=FitV_cons.1 h3
 obtain⟨n3,rfl,b3⟩:=Fit_int.1 f3
 obtain⟨t4,r4,rfl,f4,h5⟩:=FitV_cons.1 h4
 obtain⟨n4,rfl,b4⟩:=Fit_int.1 f4
 rw[FitV_nil] at h5;subst h5
 exact⟨⟨n0,n1,n2,n3,n4⟩,rfl,⟨b0,b1,b2,b3,b4⟩⟩
theorem DBand.fits {t:Tr} (h:Fit (.sl DBand.ty) t):∃ l:List DBand,t=DBand.sT l∧∀ x ∈ l,x.ok:=fits_of DBand.tr DBand.ok DBand.ty (fun ts h=>DBand.fit h) h
def DProblem.ty:List Ty:=[.sl [.sl [.int]],.sl [.sl [.int]]]
def DLicence.ty:List Ty:=[.str,.str,.int,.int,.int,.int,.int,.int,.int,.int,.int]
theorem DLicence.fit {ts:List Tr} (h0:FitV DLicence.ty ts):∃ x:DLicence,ts=x.tr∧x.ok:=by
 unfold DLicence.ty at h0
 obtain⟨t0,r0,rfl,f0,h1⟩:=FitV_cons.1 h0
 obtain⟨n0,rfl,b0⟩:=Fit_str.1 f0
 obtain⟨t1,r1,rfl,f1,h2⟩:=FitV_cons.1 h1
 obtain⟨n1,rfl,b1⟩:=Fit_str.1 f1
 obtain⟨t2,r2,rfl,f2,h3⟩:=FitV_cons.1 h2
 obtain⟨n2,rfl,b2⟩:=Fit_int.1 f2
 obtain⟨t3,r3,rfl,f3,h4⟩:=FitV_cons.1 h3
 obtain⟨n3,rfl,b3⟩:=Fit_int.1 f3
 obtain⟨t4,r4,rfl,f4,h5⟩:=FitV_cons.1 h4
 obtain⟨n4,rfl,b4⟩:=Fit_int.1 f4
 obtain⟨t5,r5,rfl,f5,h6⟩:=FitV_cons.1 h5
 obtain⟨n5,rfl,b5⟩:=Fit_int.1 f5
 obtain⟨t6,r6,rfl,f6,h7⟩:=FitV_cons.1 h6
 obtain⟨n6,rfl,b6⟩:=Fit_int.1 f6
 obtain⟨t7,r7,rfl,f7,h8⟩:=FitV_cons.1 h7
 obtain⟨n7,rfl,b7⟩:=Fit_int.1 f7
 obtain⟨t8,r8,rfl,f8,h9⟩:=FitV_cons.1 h8
 obtain⟨n8,rfl,b8⟩:=Fit_int.1 f8
 obtain⟨t9,r9,rfl,f9,h10⟩:=FitV_cons.1 h9
 obtain⟨n9,rfl,b9⟩:=Fit_int.1 f9
 obtain⟨t10,r10,rfl,f10,h11⟩:=FitV_cons.1 h10
 obtain⟨n10,rfl,b10⟩:=Fit_int.1 f10
 rw[FitV_nil] at h11;subst h11
 exact⟨⟨n0,n1,n2,n3,⟨n4,n5,n6,n7⟩,n8,n9,n10⟩,rfl,⟨b0,b1,b2,b3,⟨b4,b5,b6,b7⟩,b8,b9,b10⟩⟩
theorem DLicence.fits {t:Tr} (h:Fit (.sl DLicence.ty) t):∃ l:List DLicence,t=DLicence.sT l∧∀ x ∈ l,x.ok:=fits_of DLicence.tr DLicence.ok DLicence.ty (fun ts h=>DLicence.fit h) h
def DRequest.ty:List Ty:=[.str,.str,.str,.int,.int,.int,.int,.int]
theorem DRequest.fit {ts:List Tr} (h0:FitV DRequest.ty ts):∃ x:DRequest,ts=x.tr∧x.ok:=by
 unfold DRequest.ty at h0
 obtain⟨t0,r0,rfl,f0,h1⟩:=FitV_cons.1 h0
 obtain⟨n0,rfl,b0⟩:=Fit_str.1 f0
 obtain⟨t1,r1,rfl,f1,h2⟩:=FitV_cons.1 h1
 obtain⟨n1,rfl,b1⟩:=Fit_str.1 f1
 obtain⟨t2,r2,rfl,f2,h3⟩:=FitV_cons.1 h2
 obtain⟨n2,rfl,b2⟩:=Fit_str.1 f2
 obtain⟨t3,r3,rfl,f3,h4⟩:=FitV_cons.1 h3
 obtain⟨n3,rfl,b3⟩:=Fit_int.1 f3
 obtain⟨t4,r4,rfl,f4,h5⟩:=FitV_cons.1 h4
 obtain⟨n4,rfl,b4⟩:=Fit_int.1 f4
 obtain⟨t5,r5,rfl,f5,h6⟩:=FitV_cons.1 h5
 obtain⟨n5,rfl,b5⟩:=Fit_int.1 f5
 obtain⟨t6,r6,rfl,f6,h7⟩:=FitV_cons.1 h6
 obtain⟨n6,rfl,b6⟩:=Fit_int.1 f6
 obtain⟨t7,r7,rfl,f7,h8⟩:=FitV_cons.1 h7
 obtain⟨n7,rfl,b7⟩:=Fit_int.1 f7
 rw[FitV_nil] at h8;subst h8
 exact⟨⟨n0,n1,n2,n3,n4,n5,n6,n7⟩,rfl,⟨b0,b1,b2,b3,b4,b5,b6,b7⟩⟩
theorem DRequest.fits {t:Tr} (h:Fit (.sl DRequest.ty) t):∃ l:List DRequest,t=DRequest.sT l∧∀ x ∈ l,x.ok:=fits_of DRequest.tr DRequest.ok DRequest.ty (fun ts h=>DRequest.fit h) h
def DProtected.ty:List Ty:=[.str,.int,.int,.int,.int,.int,.int]
theorem DProtected.fit {ts:List Tr} (h0:FitV DProtected.ty ts):∃ x:DProtected,ts=x.tr∧x.ok:=by
 unfold DProtected.ty at h0
 obtain⟨t0,r0,rfl,f0,h1⟩:=FitV_cons.1 h0
 obtain⟨n0,rfl,b0⟩:=Fit_str.1 f0
 obtain⟨t1,r1,rfl,f1,h2⟩:=FitV_cons.1 h1
 obtain⟨n1,rfl,b1⟩:=Fit_int.1 f1
 obtain⟨t2,r2,rfl,f2,h3⟩:=FitV_cons.1 h2
 obtain⟨n2,rfl,b2⟩:=Fit_int.1 f2
 obtain⟨t3,r3,rfl,f3,h4⟩:=FitV_cons.1 h3
 obtain⟨n3,rfl,b3⟩:=Fit_int.1 f3
 obtain⟨t4,r4,rfl,f4,h5⟩:=FitV_cons.1 h4
 obtain⟨n4,rfl,b4⟩:=Fit_int.1 f4
 obtain⟨t5,r5,rfl,f5,h6⟩:=FitV_cons.1 h5
 obtain⟨n5,rfl,b5⟩:=Fit_int.1 f5
 obtain⟨t6,r6,rfl,f6,h7⟩:=FitV_cons.1 h6
 obtain⟨n6,rfl,b6⟩:=Fit_int.1 f6
 rw[FitV_nil] at h7;subst h7
 exact⟨⟨n0,⟨⟨n1,n2⟩,n3⟩,n4,n5,n6⟩,rfl,⟨b0,⟨⟨b1,b2⟩,b3⟩,b4,b5,b6⟩⟩
theorem DProtected.fits {t:Tr} (h:Fit (.sl DProtected.ty) t):∃ l:List DProtected,t=DProtected.sT l∧∀ x ∈ l,x.ok:=fits_of DProtected.tr DProtected.ok DProtected.ty (fun ts h=>DProtected.fit h) h
def DRecord.ty:List Ty:=[.str,.str]
def DChange.ty:List Ty:=[.int,.str,.str,.str]
def DRegister.ty:List Ty:=[.sl DRecord.ty,.sl DChange.ty]
def DSample.ty:List Ty:=[.int,.int]
def DFit.ty:List Ty:=[.int,.int]
def DFault.ty:List Ty:=[.int,.str,.str]
def DTerrain.ty:List Ty:=[.int,.int,.int,.sl [.int],.sl [.int]]
theorem DTerrain.fit {ts:List Tr} (h0:FitV DTerrain.ty ts):∃ x:DTerrain,ts=x.tr∧x.ok:=by
 unfold DTerrain.ty at h0
 obtain⟨t0,r0,rfl,f0,h1⟩:=FitV_cons.1 h0
 obtain⟨n0,rfl,b0⟩:=Fit_int.1 f0
 obtain⟨t1,r1,rfl,f1,h2⟩:=FitV_cons.1 h1
 obtain⟨n1,rfl,b1⟩:=Fit_int.1 f1
 obtain⟨t2,r2,rfl,f2,h3⟩:=FitV_cons.1 h2
 obtain⟨n2,rfl,b2⟩:=Fit_int.1 f2
 obtain⟨t3,r3,rfl,f3,h4⟩:=FitV_cons.1 h3
 obtain⟨n3,rfl,b3⟩:=fit_ints f3
 obtain⟨t4,r4,rfl,f4,h5⟩:=FitV_cons.1 h4
 obtain⟨n4,rfl,b4⟩:=fit_ints f4
 rw[FitV_nil] at h5;subst h5
 exact⟨⟨n0,n1,n2,n3,n4⟩,rfl,⟨b0,b1,b2,b3,b4⟩⟩
theorem DTerrain.fits {t:Tr} (h:Fit (.sl DTerrain.ty) t):∃ l:List DTerrain,t=DTerrain.sT l∧∀ x ∈ l,x.ok:=fits_of DTerrain.tr DTerrain.ok DTerrain.ty (fun ts h=>DTerrain.fit h) h
def DPlan.ty:List Ty:=[.int,.int,.int,.sl [.int],.sl [.int],.sl DSite.ty,.sl DSector.ty,.sl DAntenna.ty,.sl DRadio.ty,.sl DBand.ty,.sl DLicence.ty,.sl DProtected.ty,.sl [.sl [.int]],.int]
theorem DPlan.fit {ts:List Tr} (h0:FitV DPlan.ty ts):∃ x:DPlan,ts=x.tr∧x.ok:=by
 unfold DPlan.ty at h0
 obtain⟨t0,r0,rfl,f0,h1⟩:=FitV_cons.1 h0
 obtain⟨n0,rfl,b0⟩:=Fit_int.1 f0
 obtain⟨t1,r1,rfl,f1,h2⟩:=FitV_cons.1 h1
 obtain⟨n1,rfl,b1⟩:=Fit_int.1 f1
 obtain⟨t2,r2,rfl,f2,h3⟩:=FitV_cons.1 h2
 obtain⟨n2,rfl,b2⟩:=Fit_int.1 f2
 obtain⟨t3,r3,rfl,f3,h4⟩:=FitV_cons.1 h3
 obtain⟨n3,rfl,b3⟩:=fit_ints f3
 obtain⟨t4,r4,rfl,f4,h5⟩:=FitV_cons.1 h4
 obtain⟨n4,rfl,b4⟩:=fit_ints f4
 obtain⟨t5,r5,rfl,f5,h6⟩:=FitV_cons.1 h5
 obtain⟨n5,rfl,b5⟩:=DSite.fits f5
 obtain⟨t6,r6,rfl,f6,h7⟩:=FitV_cons.1 h6
 obtain⟨n6,rfl,b6⟩:=DSector.fits f6
 obtain⟨t7,r7,rfl,f7,h8⟩:=FitV_cons.1 h7
 obtain⟨n7,rfl,b7⟩:=DAntenna.fits f7
 obtain⟨t8,r8,rfl,f8,h9⟩:=FitV_cons.1 h8
 obtain⟨n8,rfl,b8⟩:=DRadio.fits f8
 obtain⟨t9,r9,rfl,f9,h10⟩:=FitV_cons.1 h9
 obtain⟨n9,rfl,b9⟩:=DBand.fits f9
 obtain⟨t10,r10,rfl,f10,h11⟩:=FitV_cons.1 h10
 obtain⟨n10,rfl,b10⟩:=DLicence.fits f10
 obtain⟨t11,r11,rfl,f11,h12⟩:=FitV_cons.1 h11
 obtain⟨n11,rfl,b11⟩:=DProtected.fits f11
 obtain⟨t12,r12,rfl,f12,h13⟩:=FitV_cons.1 h12
 obtain⟨n12,rfl,b12⟩:=fit_intss f12
 obtain⟨t13,r13,rfl,f13,h14⟩:=FitV_cons.1 h13
 obtain⟨n13,rfl,b13⟩:=Fit_int.1 f13
 rw[FitV_nil] at h14;subst h14
 exact⟨⟨⟨n0,n1,n2,n3,n4⟩,⟨n5,n6,n7,n8⟩,n9,n10,n11,n12,n13⟩,rfl,⟨⟨b0,b1,b2,b3,b4⟩,⟨b5,b6,b7,b8⟩,b9,b10,b11,b12,b13⟩⟩
theorem DPlan.fits {t:Tr} (h:Fit (.sl DPlan.ty) t):∃ l:List DPlan,t=DPlan.sT l∧∀ x ∈ l,x.ok:=fits_of DPlan.tr DPlan.ok DPlan.ty (fun ts h=>DPlan.fit h) h
def DDesk.ty:List Ty:=[.int,.int,.int,.sl [.int],.sl [.int],.sl DSite.ty,.sl DSector.ty,.sl DAntenna.ty,.sl DRadio.ty,.sl DBand.ty,.sl DLicence.ty,.sl DProtected.ty,.sl [.sl [.int]],.int,.sl DRequest.ty]
theorem DDesk.fit {ts:List Tr} (h0:FitV DDesk.ty ts):∃ x:DDesk,ts=x.tr∧x.ok:=by
 unfold DDesk.ty at h0
 obtain⟨t0,r0,rfl,f0,h1⟩:=FitV_cons.1 h0
 obtain⟨n0,rfl,b0⟩:=Fit_int.1 f0
 obtain⟨t1,r1,rfl,f1,h2⟩:=FitV_cons.1 h1
 obtain⟨n1,rfl,b1⟩:=Fit_int.1 f1
 obtain⟨t2,r2,rfl,f2,h3⟩:=FitV_cons.1 h2
 obtain⟨n2,rfl,b2⟩:=Fit_int.1 f2
 obtain⟨t3,r3,rfl,f3,h4⟩:=FitV_cons.1 h3
 obtain⟨n3,rfl,b3⟩:=fit_ints f3
 obtain⟨t4,r4,rfl,f4,h5⟩:=FitV_cons.1 h4
 obtain⟨n4,rfl,b4⟩:=fit_ints f4
 obtain⟨t5,r5,rfl,f5,h6⟩:=FitV_cons.1 h5
 obtain⟨n5,rfl,b5⟩:=DSite.fits f5
 obtain⟨t6,r6,rfl,f6,h7⟩:=FitV_cons.1 h6
 obtain⟨n6,rfl,b6⟩:=DSector.fits f6
 obtain⟨t7,r7,rfl,f7,h8⟩:=FitV_cons.1 h7
 obtain⟨n7,rfl,b7⟩:=DAntenna.fits f7
 obtain⟨t8,r8,rfl,f8,h9⟩:=FitV_cons.1 h8
 obtain⟨n8,rfl,b8⟩:=DRadio.fits f8
 obtain⟨t9,r9,rfl,f9,h10⟩:=FitV_cons.1 h9
 obtain⟨n9,rfl,b9⟩:=DBand.fits f9
 obtain⟨t10,r10,rfl,f10,h11⟩:=FitV_cons.1 h10
 obtain⟨n10,rfl,b10⟩:=DLicence.fits f10
 obtain⟨t11,r11,rfl,f11,h12⟩:=FitV_cons.1 h11
 obtain⟨n11,rfl,b11⟩:=DProtected.fits f11
 obtain⟨t12,r12,rfl,f12,h13⟩:=FitV_cons.1 h12
 obtain⟨n12,rfl,b12⟩:=fit_intss f12
 obtain⟨t13,r13,rfl,f13,h14⟩:=FitV_cons.1 h13
 obtain⟨n13,rfl,b13⟩:=Fit_int.1 f13
 obtain⟨t14,r14,rfl,f14,h15⟩:=FitV_cons.1 h14
 obtain⟨n14,rfl,b14⟩:=DRequest.fits f14
 rw[FitV_nil] at h15;subst h15
 exact⟨⟨⟨⟨n0,n1,n2,n3,n4⟩,⟨n5,n6,n7,n8⟩,n9,n10,n11,n12,n13⟩,n14⟩,rfl,⟨⟨⟨b0,b1,b2,b3,b4⟩,⟨b5,b6,b7,b8⟩,b9,b10,b11,b12,b13⟩,b14⟩⟩
theorem DDesk.fits {t:Tr} (h:Fit (.sl DDesk.ty) t):∃ l:List DDesk,t=DDesk.sT l∧∀ x ∈ l,x.ok:=fits_of DDesk.tr DDesk.ok DDesk.ty (fun ts h=>DDesk.fit h) h
def DRaster.ty:List Ty:=[.int,.int,.int,.sl [.int],.sl [.int]]
end Go.Proofs.YtjfmkmcefnidcaaGreat
