/- Fits: what bounds the sums; a fit that is valid. Plain. No program. -/
import Derived.Test.YtpodllefipleiaaGreatDoorTn2
set_option linter.unusedVariables false
set_option linter.unusedSimpArgs false
namespace Go.Proofs.YtpodllefipleiaaGreatDoor
def fitB (o s:Int):Bool:=inB s (-10000) 10000&&inB o (-600000) 600000
theorem fitB_bd {o s:Int} (h:fitB o s=true):(-10000≤s∧s≤10000)∧(-600000≤o∧o≤600000):=by
 unfold fitB inB at h;simp only[Bool.and_eq_true,decide_eq_true_eq] at h;omega
def ptB (x:Int × Int):Prop:=(0≤x.1∧x.1≤190000)∧(-300000≤x.2∧x.2≤300000)
theorem smpB_bd {x:DSample} (h:smpB x=true):(1≤x.distance∧x.distance≤283000)∧(-300000≤x.level∧x.level≤300000):=by
 unfold smpB inB at h;simp only[Bool.and_eq_true,decide_eq_true_eq] at h;omega
theorem smpsB_bd {l:List DSample} (h:za9 l=true):l.length≤64∧∀ x ∈ l,smpB x=true:=by
 unfold za9 at h;rw[Bool.and_eq_true,decide_eq_true_eq,List.all_eq_true] at h;exact h
theorem ptB_of {x:DSample} (h:smpB x=true):ptB (lgI x.distance,x.level):=by
 have h1:=smpB_bd h;have h2:=lgI_bd (n:=x.distance) (by omega);exact⟨by omega,by omega⟩
theorem pts_ptB {l:List DSample} (h:za9 l=true):∀ x ∈ pts l,ptB x:=by
 intro x hx;obtain⟨y,hy,rfl⟩:=List.mem_map.1 hx;exact ptB_of ((smpsB_bd h).2 y hy)
theorem zbp {a b A B:Int} (ha0:0≤a) (ha:a≤A) (hb0:-B≤b) (hb:b≤B) (hB:0≤B):-(A*B)≤a*b∧a*b≤A*B:=by
 have h1:=Int.mul_le_mul_of_nonneg_left hb ha0;have h2:=Int.mul_le_mul_of_nonneg_left hb0 ha0;have h3:=Int.mul_le_mul_of_nonneg_right ha hB;rw[Int.mul_neg] at h2;omega
theorem sums_bd (l:List (Int × Int)) (hl:l.length≤64) (h:∀ x ∈ l,ptB x) :
  (0≤sD l∧sD l≤12160000)∧(-19200000≤sY l∧sY l≤19200000)∧(0≤sDD l∧sDD l≤2310400000000)∧(-3648000000000≤sDY l∧sDY l≤3648000000000):=by
 have hn:(l.length:Int)≤64:=by omega
 have a0:=zbt l (fun x=>x.1) fun x hx=>(h x hx).1.1
 have a:=sumM_bd l (fun x=>x.1) 190000 fun x hx=>by have:=h x hx;unfold ptB at this;constructor<;>omega
 have b:=sumM_bd l (fun x=>x.2) 300000 fun x hx=>by have:=h x hx;unfold ptB at this;constructor<;>omega
 have c0:=zbt l (fun x=>x.1*x.1) fun x hx=>sq_nn _
 have c:=sumM_bd l (fun x=>x.1*x.1) 36100000000 fun x hx=>by
  have:=h x hx;unfold ptB at this;exact zbp (A:=190000) (B:=190000) (by omega) (by omega) (by omega) (by omega) (by omega)
 have d:=sumM_bd l (fun x=>x.1*x.2) 57000000000 fun x hx=>by
  have:=h x hx;unfold ptB at this;exact zbp (A:=190000) (B:=300000) (by omega) (by omega) (by omega) (by omega) (by omega)
 unfold sD sY sDD sDY;omega
theorem pts_take (l:List DSample) (k:Nat):(pts l).take k=pts (l.take k):=by unfold pts;rw[List.map_take]
theorem pts_succ (l:List DSample) (k:Nat) (h:k<l.length):pts (l.take (k+1))=pts (l.take k)++[(lgI l[k].distance,l[k].level)]:=by
 unfold pts;rw[List.take_succ_eq_append_getElem h,List.map_append]
 rfl
theorem sums_succ (l:List DSample) (k:Nat) (h:k<l.length) :
  sD (pts (l.take (k+1)))=sD (pts (l.take k))+lgI l[k].distance∧sY (pts (l.take (k+1)))=sY (pts (l.take k))+l[k].level ∧
  sDD (pts (l.take (k+1)))=sDD (pts (l.take k))+lgI l[k].distance*lgI l[k].distance∧sDY (pts (l.take (k+1)))=sDY (pts (l.take k))+lgI l[k].distance*l[k].level:=by
 rw[pts_succ l k h];unfold sD sY sDD sDY;simp only[sumM_app];simp[sumM]
theorem levF_bd {o s d:Int} (hf:fitB o s=true) (h0:0≤d) (h1:d≤190000):(-1900000000≤s*d∧s*d≤1900000000)∧(-1900001≤rdiv (s*d) 1000∧rdiv (s*d) 1000≤1900001)∧(-2500001≤levF o s d∧levF o s d≤2500001):=by
 have hb:=fitB_bd hf;have m:=zbp (a:=d) (b:=s) (A:=190000) (B:=10000) h0 h1 (by omega) (by omega) (by omega);rw[Int.mul_comm d s] at m;have r:=rdiv_two (s*d) (b:=1000) (by decide);unfold levF;omega
theorem difF_bd {o s:Int} {x:Int × Int} (hf:fitB o s=true) (h:ptB x):-2800001≤difF o s x∧difF o s x≤2800001:=by
 have:=levF_bd hf h.1.1 h.1.2;unfold ptB at h;unfold difF;omega
end Go.Proofs.YtpodllefipleiaaGreatDoor
