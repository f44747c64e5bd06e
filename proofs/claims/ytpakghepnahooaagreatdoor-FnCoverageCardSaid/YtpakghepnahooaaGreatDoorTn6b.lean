/- Contract: whether code is too long for a law. No condition. -/
import Derived.Test.YtpakghepnahooaaGreatDoorInfoR
import Derived.Test.YtpakghepnahooaaGreatDoorSpare
import Derived.Deep.DeepCutAuto
set_option linter.unusedVariables false
set_option linter.unusedSimpArgs false
namespace Go.Proofs.YtpakghepnahooaaGreatDoor
open Go.RowKit
theorem Q49 {p:Prop} (h:p:=by decide):p:=h
set_option maxHeartbeats 2000000
def bsT (l:List UInt8):Tr:=.sl 1 (l.map fun b=>.lit (.int .u8 (b.toNat:Int)))
theorem Rd.bs {B:Nat} {w:World} {l:List UInt8} {v:Value} (h:Rd B w (bsT l) v) :
  ∃ a c,v=IZ a l.length c∧l.length≤c∧c≤maxLen∧(0<l.length→∃ b off,a=some ⟨b,off,none⟩∧b<B∧∀ (i:Nat) (hi:i<l.length),w.cell? ⟨b,off+i,none⟩=some (.int .u8 (l[i].toNat:Int))):=by
 obtain⟨a,c,hv,h1,h2,h3⟩:=Rd.slAt1 h;refine⟨a,c,hv,h1,h2,fun hn=>?_⟩;obtain⟨b,off,ha,hb,hat⟩:=h3 hn;refine⟨b,off,ha,hb,fun i hi=>?_⟩;obtain⟨u,hu,hr⟩:=hat i hi;rw[hu,Rd.lit.1 hr]
structure Src (w:World) (b k:Nat):Prop where
 code:∃ (l:List UInt8) (v:Value),(w,b,0,v)∧Rd b w (bsT l) v
 at_:w.cell? ⟨b,1,none⟩=some (J (k:Int))
 seed:∃ s:Int,(w,b,2,Value.int .u64 s)∧0≤s∧s<18446744073709551616
 open_:∀ i,w.frozen? ⟨b,i,none⟩=false
 lt:b<w.heap.size
theorem Src.below {w w':World} {b k B:Nat} (h:Src w b k) (hb:b<B) (hw:OI B w w'):Src w' b k:=by
 obtain⟨l,v,h1,h2⟩:=h.code;obtain⟨s,h3,hs⟩:=h.seed;exact⟨⟨l,v,by rw[bat hw b 0 hb];exact h1,h2.below (hw.mono II)⟩,by rw[bat hw b 1 hb];exact h.at_,⟨s,by rw[bat hw b 2 hb];exact h3,hs⟩,fun i=>by rw[baf hw b i hb];exact h.open_ i,Nat.lt_of_lt_of_le h.lt hw.size⟩
theorem Src.drewN {w:World} {b k:Nat} (h:Src w b k) (n:Nat):Src (w.drewN n) b k:=⟨h.code.elim fun l ⟨v,h1,h2⟩=>⟨l,v,h1,h2.drewN n⟩,h.at_,h.seed,h.open_,h.lt⟩
theorem Src.chg {w w':World} {b k:Nat} {fp:List Nat} (h:Src w b k) (hf:∀ x ∈ fp,b<x) (hc:Chg fp w w'):Src w' b k:=h.below (B:=b+1) II (hc.below h.lt (fun x hx=>hf x hx))
theorem Chg.drewN {fp:List Nat} {a w:World} (h:Chg fp a w) (n:Nat):Chg fp a (w.drewN n):=⟨h.os,h.tape,h.output,h.size,h.block⟩
theorem Src.step {w:World} {b k:Nat} (h:Src w b k) (s:Int) (h0:0≤s) (h1:s<18446744073709551616) :
  Src ((w.setCell ⟨b,1,none⟩ (J ((k:Int)+1))).setCell ⟨b,2,none⟩ (.int .u64 s)) b (k+1)∧Chg [b] w ((w.setCell ⟨b,1,none⟩ (J ((k:Int)+1))).setCell ⟨b,2,none⟩ (.int .u64 s)):=by
 obtain⟨l,v,c0,hr⟩:=h.code;have c1:=h.at_;obtain⟨sd,c2,_⟩:=h.seed;have hc:Chg [b] w ((w.setCell ⟨b,1,none⟩ (J ((k:Int)+1))).setCell ⟨b,2,none⟩ (.int .u64 s)):=((Chg.refl [b] w).setCell Q4a _).setCell Q4a _;refine⟨⟨⟨l,v,by simp[go_sem,c0],hr.below (hc.below (Nat.le_of_lt h.lt) (fun x hx=>by simp at hx;omega))⟩,by simp[go_sem,c0,c1],⟨s,by simp[go_sem,c0,c1,c2],h0,h1⟩,fun i=>?_,by simpa using h.lt⟩,hc⟩;have:=h.open_ i;simp[go_sem,this]
theorem u64_and255 (a:Int) (h0:0≤a) (h1:a<18446744073709551616):0≤bits .and .u64 a 255∧bits .and .u64 a 255≤255:=by
 obtain⟨n,rfl⟩:=Int.eq_ofNat_of_zero_le h0;have:=u64_and_nat n 255 II Q49;rw[show ((255:Nat):Int)=255 from rfl] at this;rw[this];have h2:=Nat.and_le_right (n:=n) (m:=255);omega
theorem w64_small {n:Int} (h0:0≤n) (h1:n≤255):wrap64 n=n:=by unfold wrap64;omega
theorem next_any (b k:Nat) (w:World) (h:Src w b k) (hk:k≤1099511627776) :
  Calls Tryz.prog 96 #[.pointer (some ⟨b,0,none⟩)] w fun e w'=>(∃ x:Int,0≤x∧x≤255∧e=.returned (J x))∧Src w' b (k+1)∧Chg [b] w w':=by
 obtain⟨l,v,s0,hr⟩:=h.code;obtain⟨a,c,rfl,hnc,hcm,hcells⟩:=hr.bs;have s1:=h.at_;have i1:(0:Int)≤(k:Int):=II
 have HR:=IJ hr;have HS:=IJ h;clear hr h;go_enter Tryz.func96,Tryz.ntmps96;go_upto_region 2 with (fail)
 go_quiet (fail)
 go_upto_if 13 with (fail);go_cut [3] (fun s3 wx=>∃ x:Int,s3=J x∧0≤x∧x≤255∧Src wx b k∧Chg [b] w wx)
 case first =>
  by_cases c1:k<l.length
  ·obtain⟨cb,off,rfl,hbl,hat⟩:=hcells II
   have s3:=hat k c1;have i2:(k:Int)<(l.length:Int):=II
   generalize hx:((l[k].toNat:Nat):Int)=x at *;have hx0:0≤x:=II
   have hx1:x≤255:=by have:=l[k].toNat_lt;omega
   have HX0:=IJ hx0;have HX1:=IJ hx1;clear hx hcells hat;go_wp2
   go_quiet (fail)
   go_wp2;go_meet;exact⟨x,rfl,HX0.out,HX1.out,(HS.out.drewN _).drewN _,((Chg.refl _ _).drewN _).drewN _⟩
  ·have i2:¬ (k:Int)<(l.length:Int):=II
   clear hcells;go_wp2;go_meet;exact⟨0,rfl,II,II,HS.out.drewN _,(Chg.refl _ _).drewN _⟩
 case rest =>
  obtain⟨x,rfl,hx0,hx1,h2,hc2_⟩:=hcut;have HX:=IJ (And.intro hx0 hx1);clear hx0 hx1 hcells hnc hcm s0 s1;have hc2:=IJ hc2_;clear HS HR hc2_;generalize wc=w2 at *;have HS:=IJ h2;have s1:=h2.at_;obtain⟨sd,s2,hsd⟩:=h2.seed;have f1:=h2.open_ 1;have f2:=h2.open_ 2;clear h2 hsd;go_upto_region 5 with (fail);go_cut [3] (fun s3 wx=>s3=J x∧Src wx b (k+1)∧Chg [b] w2 wx)
  case first =>
   go_wp2;go_meet;exact⟨rfl,HS.out.step _ (by rw[IntKind.wrap_u64];omega) (by rw[IntKind.wrap_u64];omega)⟩
  case rest =>
   obtain⟨rfl,S3,hc3⟩:=hcut;have HC:=IJ (hc2.out.trans hc3);clear HS s1 s2 f1 f2 hc2 hc3;have HS:=IJ S3;have s1:=S3.at_;obtain⟨l,v,s0,hr⟩:=S3.code;obtain⟨a,c,rfl,_,_,_⟩:=hr.bs;obtain⟨sd,s2,hs0,hs1⟩:=S3.seed;clear S3 hr;generalize wc=w3 at *
   by_cases c1:k+1≤l.length
   ·have i2:((k+1:Nat):Int)≤(l.length:Int):=II
    have HSD:=IJ (And.intro hs0 hs1);clear hs0 hs1;go_wp2
    go_quiet (fail)
    go_wp2;go_ret;exact⟨⟨x,HX.out.1,HX.out.2,rfl⟩,HS.out.drewN _,HC.out.drewN _⟩
   ·have i2:¬ ((k+1:Nat):Int)≤(l.length:Int):=II
    have HSD:=IJ (And.intro hs0 hs1);clear hs0 hs1;go_wp2
    go_quiet (fail)
    go_wp2;go_ret;have hb:=u64_and255 (sd / 1099511627776) (by have:=HSD.out;omega) (by have:=HSD.out;omega);exact⟨⟨bits .and .u64 (sd / 1099511627776) 255,hb.1,hb.2,by show Ending.returned (Value.int IntKind.i64 (wrap64 _))=_;rw[w64_small hb.1 hb.2]⟩,HS.out.drewN _,HC.out.drewN _⟩
def SrcQ (b k c:Nat) (w w':World):Prop:=∃ k',k≤k'∧k'≤k+c∧Src w' b k'∧Chg [b] w w'
theorem pick_any (b k:Nat) (n:Int) (w:World) (h:Src w b k) (hk:k≤1099511627000) (hn:I64 n) :
  Calls Tryz.prog 59 #[.pointer (some ⟨b,0,none⟩),J n] w fun e w'=>(∃ x:Int,0≤x∧(x<n∨n≤1∧x=0)∧e=.returned (J x))∧SrcQ b k 2 w w':=by
 have HS:=IJ h;clear h;obtain⟨hn0,hn1⟩:=hn;have HN:=IJ fun (k':Nat) (W:World) (h1:Src W b k') (h2:k'≤k+1)=>next_any b k' W h1 II
 by_cases c1:n≤1
 ·have HC:=IJ c1
  go_enter Tryz.func59,Tryz.ntmps59;go_wp2;go_ret;exact⟨⟨0,Int.le_refl _,Or.inr ⟨HC.out,rfl⟩,rfl⟩,k,Nat.le_refl _,II,HS.out,Chg.refl _ _⟩
 ·by_cases c2:200<n
  ·go_enter Tryz.func59,Tryz.ntmps59
   go_wp2_with (fail)
   go_at_call 96
   refine (HN.out k w HS.out II).mono ?_;rintro e w1 ⟨⟨x,hx0,hx1,rfl⟩,S1,C1⟩;have HX:=IJ (And.intro hx0 hx1);clear HS;have HS:=IJ S1;have HC:=IJ C1;clear S1 C1;go_wp2_with (fail)
   go_at_call 96
   refine (HN.out (k+1) w1 HS.out II).mono ?_;rintro e w2 ⟨⟨y,hy0,hy1,rfl⟩,S1,C1⟩;have HS2:=IJ S1;have HC2:=IJ (HC.out.trans C1);clear S1 C1 HS HC;have hx0:=HX.out.1;have hx1:=HX.out.2;have e1:IntKind.i64.wrap (IntKind.i64.wrap (x*256)+y)=x*256+y:=by
    rw[show IntKind.i64.wrap (x*256)=x*256 from IntWalk.i64_in _ II,show IntKind.i64.wrap (x*256+y)=_ from IntWalk.i64_in _ II]
   go_wp2;go_ret;exact⟨⟨(x*256+y) % n,Int.emod_nonneg _ II,Or.inl (Int.emod_lt_of_pos _ II),rfl⟩,k+2,II,Nat.le_refl _,HS2.out,HC2.out⟩
  ·go_enter Tryz.func59,Tryz.ntmps59
   go_wp2_with (fail)
   go_at_call 96
   refine (HN.out k w HS.out II).mono ?_;rintro e w1 ⟨⟨x,hx0,hx1,rfl⟩,S1,C1⟩;clear HS;have HS:=IJ S1;have HC:=IJ C1;clear S1 C1;go_wp2;go_ret;exact⟨⟨x % n,Int.emod_nonneg _ II,Or.inl (Int.emod_lt_of_pos _ II),rfl⟩,k+1,II,II,HS.out,HC.out⟩
theorem zbe (b k:Nat) (n:Int) (w:World) (h:Src w b k) (hk:k≤1099511627000) (h0:1≤n) (h1:n≤4294967296) :
  Calls Tryz.prog 59 #[.pointer (some ⟨b,0,none⟩),J n] w fun e w'=>(∃ x:Int,0≤x∧x<n∧e=.returned (J x))∧SrcQ b k 2 w w' :=
 (pick_any b k n w h hk ⟨II,II⟩).mono fun e w' ⟨⟨x,a0,a1,a2⟩,hq⟩=>⟨⟨x,a0,II,a2⟩,hq⟩
theorem one_any (b k:Nat) (n:Int) (w:World) (h:Src w b k) (hk:k≤1099511627000) (hn:I64 n) :
  Calls Tryz.prog 68 #[.pointer (some ⟨b,0,none⟩),J n] w fun e w'=>(∃ x:Bool,e=.returned (.bool x))∧SrcQ b k 2 w w':=by
 have HP:=IJ (pick_any b k n w h hk hn);clear h hn;go_enter Tryz.func68,Tryz.ntmps68;go_wp2_with (fail)
 go_at_call 59
 refine HP.out.mono ?_;rintro e w1 ⟨⟨x,_,_,rfl⟩,S1⟩;have HS:=IJ S1;clear S1;go_wp2;go_ret;exact⟨⟨_,rfl⟩,HS.out⟩
theorem l00From_any (l:List UInt8) (v:Value) (w:World) (h:Rd w w (bsT l) v) :
  Calls Tryz.prog 26 #[v] w fun e w'=>e=.returned (.pointer (some ⟨w,0,none⟩))∧Src w' w.heap.size 0∧OI w w w'∧w'.heap.size=w.heap.size+1:=by
 obtain⟨a,c,rfl,_,_,_⟩:=h.bs;have HR:=IJ h;clear h;go_enter Tryz.func26,Tryz.ntmps26;go_wp2;go_ret;have hb:OI w w (w.alloc (.cells #[IZ a l.length c,J 0,.int .u64 0] 116)):=(Below.refl _ _).alloc (Nat.le_refl _) _;exact⟨rfl,⟨⟨l,_,by simp[go_sem],HR.out.below hb⟩,by simp[go_sem],⟨0,by simp[go_sem],by decide,by decide⟩,fun i=>by simp[go_sem],by simp⟩,hb,by simp⟩
theorem b10Long_any (l:List UInt8) (v:Value) (w:World) (h:Rd w w (bsT l) v):Calls Tryz.prog 6 #[v] w fun e w'=>e=.returned (.bool (decide ((1048576:Int)<(l.length:Int))))∧w=w':=by
 obtain⟨a,c,rfl,_,_,_⟩:=h.bs;clear h;go_enter Tryz.func6,Tryz.ntmps6;go_wp2;go_ret;exact⟨rfl,rfl⟩
end Go.Proofs.YtpakghepnahooaaGreatDoor
