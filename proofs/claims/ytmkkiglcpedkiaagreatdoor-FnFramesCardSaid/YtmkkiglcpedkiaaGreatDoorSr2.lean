/- Contracts: check values (the program), numbers in decimal, written by the reference. Conditions: bounded sizes. -/
import Derived.Test.YtmkkiglcpedkiaaGreatDoorCrc
import Derived.Deep.DeepCutAuto
set_option linter.unusedVariables false
set_option linter.unusedSimpArgs false
namespace Go.Proofs.YtmkkiglcpedkiaaGreatDoor
open Go.RowKit
set_option maxHeartbeats 8000000
set_option maxRecDepth 100000
theorem crc16_any (s:ByteArray) (hs:s.size≤1099511627776) (w:World):Calls Tryz.prog 36 #[.string s,.int .i64 65535] w fun e w'=>e=.returned (.int .i64 (crcL (bl s) 65535))∧w=w':=by
 have hsi:(s.size:Int)≤1099511627776:=by omega
 have HW:Hid (∀ W,Calls Tryz.prog 44 #[.int .i64 65535,.int .i64 0,.int .i64 65535] W fun e w'=>e=.returned (.bool true)∧W=w'):=fun W=>within_any 65535 0 65535 W
 go_enter Tryz.func36,Tryz.ntmps36;go_wp2_with (go_at_call 44;with_reducible refine (HW.out _).mono ?_;rintro e w1 ⟨rfl,rfl⟩);go_loopw [5,13] (fun v i wr=>∃ (k:Nat),k≤s.size∧i=.int .i64 k∧v=.int .i64 (crcL ((bl s).take k) 65535)∧wr=w) (fun _ i wr=>s.size-(intOf i).toNat)
 case atStart=>exact⟨0,Nat.zero_le _,rfl,rfl,rfl⟩
 case round =>
  obtain⟨k,hk,rfl,rfl,rfl⟩:=hrel
  by_cases hlt:k<s.size
  ·have HT:=Lib.hid (crc_take s k hlt 65535)
   generalize crcL ((bl s).take k) 65535=c at *;generalize hb:s[k]=b at *;go_wp2;have HC:Hid (crcIt 8 (crcIn c b)=crcB c b):=rfl;have HI:Hid (crcIn c b=bits .xor .i64 c (wrap64 (wrap64 (b.toNat:Int)*256))):=rfl;rw[← HI.out];generalize crcIn c b=ci at *;go_loopw [5,23] (fun v i wq=>∃ (j:Nat),j≤8∧i=.int .i64 j∧v=.int .i64 (crcIt j ci)∧wq=wr) (fun _ i wq=>8-(intOf i).toNat)
   case atStart=>exact⟨0,by omega,rfl,rfl,rfl⟩
   case round =>
    obtain⟨j,hj,rfl,rfl,rfl⟩:=hrel
    by_cases hlj:j<8
    ·have hji:(j:Int)<8:=by omega
     have HJ:Hid (crcIt (j+1) ci=crcBit (crcIt j ci)):=rfl;generalize crcIt j ci=x at *
     by_cases hx:65535<wrap64 (x*2)
     ·have HX:Hid (crcBit x=bits .xor .i64 (bits .and .i64 (wrap64 (x*2)) 65535) 4129):=by show _=_;unfold crcBit;rw[if_pos hx]
      go_wp2;go_roundw
      case rel=>exact⟨j+1,by omega,by go_num,by rw[HJ.out,HX.out],by first|rfl|trivial⟩
      case measure=>simp[intOf];omega
     ·have HX:Hid (crcBit x=wrap64 (x*2)):=by show _=_;unfold crcBit;rw[if_neg hx]
      go_wp2;go_roundw
      case rel=>exact⟨j+1,by omega,by go_num,by rw[HJ.out,HX.out],by first|rfl|trivial⟩
      case measure=>simp[intOf];omega
    ·obtain rfl:j=8:=by omega
     rw[HC.out,← HT.out];go_wp2;go_roundw
     case rel=>exact⟨k+1,by omega,by go_num,by first|rfl|assumption,by first|rfl|trivial⟩
     case measure=>simp[intOf];omega
  ·obtain rfl:k=s.size:=by omega
   go_wp2;go_ret;exact⟨by rw[List.take_of_length_le (by rw[bl_len];exact Nat.le_refl _)];rfl,rfl⟩
def byteT (b:UInt8):Tr:=.lit (.int .u8 (b.toNat:Int))
def bytesT (l:List UInt8):Tr:=.sl 1 (l.map byteT)
theorem Rd.bytes {B:Nat} {w:World} {l:List UInt8} {v:Value} (h:Rd B w (bytesT l) v) :
  ∃ a c,v=.slice a l.length c∧l.length≤c∧c≤maxLen∧(0<l.length→∃ b off,a=some ⟨b,off,none⟩∧b<B∧∀ (i:Nat) (hi:i<l.length),w.cell? ⟨b,off+i,none⟩=some (.int .u8 (l[i].toNat:Int))):=by
 obtain⟨a,c,hv,h1,h2,h3⟩:=Rd.slAt1 h;refine⟨a,c,hv,h1,h2,fun hn=>?_⟩;obtain⟨b,off,ha,hb,hat⟩:=h3 hn;refine⟨b,off,ha,hb,fun i hi=>?_⟩;obtain⟨u,hu,hr⟩:=hat i hi;rw[hu,Rd.lit.1 hr]
theorem infoB:(Tryz.prog.info? 5).map (fun i=>(i.zero,i.size,i.bytes))=some (some (.int .u8 0),1,1):=by kernel_rfl
theorem own_empty1 (w:World) (E:Nat):(w.alloc (.cells #[] E)).ownsRow w.heap.size E 1 (.slice (some ⟨w.heap.size,0,none⟩) 0 0) 0 [] :=
 ⟨rfl,Or.inr ⟨w.heap.size,0,#[],rfl,Nat.le_refl _,by show (w.heap.push _)[w.heap.size]? = _;simp,Nat.le_refl _,Nat.zero_le _,rfl,by simp⟩⟩
theorem grow_none1 (w:World) (E B:Nat) (hB:B≤w.heap.size):Grow (w.alloc (.cells #[] E)) w.heap.size E 1 (.slice (some ⟨w.heap.size,0,none⟩) 0 0) 0 [] []:=⟨⟨[],own_empty1 w E,rfl⟩,List.nodup_nil,fun b h=>by simp at h,fun g _=>by simp⟩
def decR (m:Int):List UInt8:=if m=0 then [] else Go.Lib.decDigits m.natAbs
theorem dec_step (u:Nat) (h:0<u):Go.Lib.decDigits u=(if u / 10=0 then [] else Go.Lib.decDigits (u / 10))++[UInt8.ofNat (48+u % 10)]:=by
 rw[Go.Lib.decDigits]
 split
 ·rename_i h10
  rw[if_pos (by omega),List.nil_append]
  congr 3;omega
 ·rw[if_neg (by omega)]
theorem decR_step (m:Int) (h:m≠0):decR m=decR (m.tdiv 10)++[UInt8.ofNat (48+m.natAbs % 10)]:=by
 unfold decR;rw[if_neg h,dec_step m.natAbs (by omega)];have h1:(m.tdiv 10).natAbs=m.natAbs / 10:=by rw[Int.natAbs_tdiv];rfl
 rw[h1]
 by_cases h2:m.natAbs / 10=0
 ·rw[if_pos h2,if_pos (by omega)]
 ·rw[if_neg h2,if_neg (by intro e;rw[e] at h1;simp at h1;omega)]
theorem digit_val (e:Nat) (h:e<10):((UInt8.ofNat (48+e)).toNat:Int)=48+(e:Int):=by
 rw[UInt8.toNat_ofNat'];have:(48+e) % 256=48+e:=Nat.mod_eq_of_lt (by omega);show (((48+e) % 2 ^ 8:Nat):Int)=_
 rw[show (2:Nat) ^ 8=256 from rfl,this];omega
theorem tdiv_pos10 {m:Int} (h:0≤m):m.tdiv 10=m / 10∧m.tmod 10=m % 10:=⟨Int.tdiv_eq_ediv_of_nonneg h,Int.tmod_eq_emod_of_nonneg h⟩
theorem tdiv_neg10 {m:Int} (h:m<0):m.tdiv 10 = -((-m) / 10)∧m.tmod 10 = -((-m) % 10):=by
 have h2:=tdiv_pos10 (m:=-m) (by omega);rw[← h2.1,← h2.2,Int.neg_tdiv,Int.neg_tmod,Int.neg_neg,Int.neg_neg];exact⟨rfl,rfl⟩
theorem tmod_natAbs (m:Int):(0≤m→m.tmod 10=((m.natAbs % 10:Nat):Int))∧(m<0→m.tmod 10 = -((m.natAbs % 10:Nat):Int)):=by
 constructor<;>intro h
 ·rw[(tdiv_pos10 h).2];omega
 ·rw[(tdiv_neg10 h).2];omega
theorem tdiv_facts (m:Int) (h1:-9223372036854775808≤m) (h2:m≤9223372036854775807):-9223372036854775808≤m.tdiv 10∧m.tdiv 10≤9223372036854775807∧(0≤m→0≤m.tdiv 10)∧(m≤0→m.tdiv 10≤0)∧(m≠0→(m.tdiv 10).natAbs<m.natAbs):=by
 by_cases h:0≤m
 ·rw[(tdiv_pos10 h).1];omega
 ·rw[(tdiv_neg10 (by omega)).1];omega
theorem addr_add (b off j:Nat):(⟨b,off,none⟩:Addr).add j=⟨b,off+j,none⟩:=by
 unfold Addr.add
 split
 ·rename_i h;subst h;rfl
 ·rfl
theorem itoa_zero:Go.Lib.itoa 0 = [48]:=by unfold Go.Lib.itoa;rw[if_neg (by omega),show (0:Int).toNat=0 from rfl,Go.Lib.decDigits];rfl
theorem itoa_dec (n:Int):Go.Lib.itoa n=if n<0 then 45::Go.Lib.decDigits n.natAbs else Go.Lib.decDigits n.natAbs:=by
 unfold Go.Lib.itoa
 split
 ·rfl
 ·congr 1;omega
theorem l01Dec_any (n:Int) (hn:I64 n) (w:World):Calls Tryz.prog 53 #[.int .i64 n] w fun e w'=>e=.returned (.string (ofL (Go.Lib.itoa n)))∧Below w.heap.size w w':=by
 by_cases h0:n=0
 ·subst h0
  have HE:=Lib.hid itoa_zero;go_enter Tryz.func53,Tryz.ntmps53;go_wp2;go_ret;exact⟨by rw[HE.out];rfl,Below.refl _ _⟩
 have hn1:=hn.1;have hn2:=hn.2;have hlen:=Go.Lib.itoa_length_le n hn1 hn2;have HIT:=Lib.hid (itoa_dec n);have hdl:(Go.Lib.decDigits n.natAbs).length≤21:=by
  rw[itoa_dec] at hlen
  split at hlen
  ·rw[List.length_cons] at hlen;omega
  ·exact hlen
 have hdr:decR n=Go.Lib.decDigits n.natAbs:=by unfold decR;rw[if_neg h0]
 have hne:0<(Go.Lib.decDigits n.natAbs).length:=by
  rw[← hdr,decR_step n h0];simp
 have hq:(n == 0)=false:=by simpa using h0
 obtain⟨i0,hi0,hz0,hz1,hz2⟩:=info_parts infoB;have b0:Below w.heap.size w (w.alloc (.cells #[] 5)):=below_alloc _ _;have HB0:=Lib.hid b0;clear b0 hlen;generalize Go.Lib.decDigits n.natAbs=dn at *;have HDR:=Lib.hid hdr;clear hdr;go_enter Tryz.func53,Tryz.ntmps53;go_wp2;go_loopw [3,4] (fun v i wr=>∃ (m:Int) (ds:List UInt8),i=.int .i64 m∧decR m++ds.reverse=dn∧((0≤n∧0≤m)∨(n<0∧m≤0))∧-9223372036854775808≤m∧m≤9223372036854775807∧Below w.heap.size w wr∧Grow wr w.heap.size 5 1 v ds.length (ds.map byteT) []) (fun _ i wr=>(intOf i).natAbs)
 case atStart=>exact⟨n,[],rfl,by rw[HDR.out];simp,by omega,hn1,hn2,HB0.out,by simpa using grow_none1 w 5 0 (Nat.zero_le _)⟩
 case round =>
  obtain⟨m,ds,rfl,heq,hsg,hm1,hm2,hb,hgr⟩:=hrel;have HEQ:=Lib.hid heq;have HB:=Lib.hid hb;have HG:=Lib.hid hgr;have zr:=hb.size;have hdsl:ds.length≤21:=by
   have:=congrArg List.length heq;rw[List.length_append,List.length_reverse] at this;omega
  clear hb hgr heq
  by_cases hm:m=0
  case neg =>
   have hmq:(m != 0)=true:=by simpa using hm
   have HS:=Lib.hid (decR_step m hm);have hel:m.natAbs % 10<10:=Nat.mod_lt _ (by omega);obtain⟨e,he⟩:∃ e,e=m.natAbs % 10:=⟨_,rfl⟩
   rw[← he] at hel;have HDV:=Lib.hid (digit_val e hel);have htm:=tmod_natAbs m;rw[← he] at htm HS;have hdiv:=tdiv_facts m hm1 hm2;have HDI:=Lib.hid hdiv;obtain⟨q,hqq⟩:∃ q,m.tmod 10=q:=⟨_,rfl⟩
   obtain⟨p,hpp⟩:∃ p,m.tdiv 10=p:=⟨_,rfl⟩
   rw[hqq] at htm;rw[hpp] at HS HDI;have hrange:(0≤q∧q≤9∧q=(e:Int))∨(q<0∧-9≤q∧-q=(e:Int)):=by omega
   have HSG:=Lib.hid hsg;have HM:=Lib.hid hm;have hp1:=HDI.out.1;have hp2:=HDI.out.2.1;clear hdiv htm he hm hsg
   rcases hrange with ⟨hr1,hr2,hr3⟩|⟨hr1,hr2,hr3⟩
   ·have hqe:=Lib.hid hr3
    clear hr3;have w1:(48+q) % 256=48+q:=by omega
    go_wp2_with (at_builtin;refine wpList_append1 rfl (.tmp 22) (.tmp 26) _ rfl (w.heap.size) 5 i0 _ 1 1 Tryz.underlying22 hi0 hz0 hz1 hz2 rfl (by omega) _ _ _ [] rfl HG.out [_] [.lit _] [] rfl 1 rfl (fun u hu=>by simp at hu;subst hu;rfl) (RepV.lits [_]) List.nodup_nil (fun b h=>by simp at h) 0 In.nil In.nil (by simp) (by simp) (by unfold maxLen;omega) (by omega) (by omega) ?_;intro v2 w3 hgn);have HGN:=Lib.hid hgn;clear hgn;go_wp2;go_roundw
    case rel =>
     refine⟨p,ds++[UInt8.ofNat (48+e)],by first|assumption|rfl,?_,?_,HDI.out.1,HDI.out.2.1,HB.out.trans HGN.out.below,?_⟩
     ·rw[← HEQ.out,HS.out];simp
     ·have:=HDI.out;have:=HSG.out;omega
     ·rw[List.length_append,List.map_append]
      have hx:=HGN.out.grow;have hd:=HDV.out;have he2:=hqe.out;simp only[List.map_cons,List.map_nil,byteT,hd];rw[← he2];exact hx
    case measure=>have:=HDI.out;have:=HM.out;simp only[intOf];omega
   ·have hqe:=Lib.hid hr3
    clear hr3;have w1:(48 + -q) % 256=48 + -q:=by omega
    go_wp2_with (at_builtin;refine wpList_append1 rfl (.tmp 22) (.tmp 26) _ rfl (w.heap.size) 5 i0 _ 1 1 Tryz.underlying22 hi0 hz0 hz1 hz2 rfl (by omega) _ _ _ [] rfl HG.out [_] [.lit _] [] rfl 1 rfl (fun u hu=>by simp at hu;subst hu;rfl) (RepV.lits [_]) List.nodup_nil (fun b h=>by simp at h) 0 In.nil In.nil (by simp) (by simp) (by unfold maxLen;omega) (by omega) (by omega) ?_;intro v2 w3 hgn);have HGN:=Lib.hid hgn;clear hgn;go_wp2;go_roundw
    case rel =>
     refine⟨p,ds++[UInt8.ofNat (48+e)],by first|assumption|rfl,?_,?_,HDI.out.1,HDI.out.2.1,HB.out.trans HGN.out.below,?_⟩
     ·rw[← HEQ.out,HS.out];simp
     ·have:=HDI.out;have:=HSG.out;omega
     ·rw[List.length_append,List.map_append]
      have hx:=HGN.out.grow;have hd:=HDV.out;have he2:=hqe.out;simp only[List.map_cons,List.map_nil,byteT,hd];rw[← he2];exact hx
    case measure=>have:=HDI.out;have:=HM.out;simp only[intOf];omega
  case pos =>
   subst hm;have hrv:ds.reverse=dn:=by have:=HEQ.out;unfold decR at this;simpa using this
   have HRV:=Lib.hid hrv;have hdl2:ds.length=dn.length:=by rw[← hrv,List.length_reverse]
   have hpos:0<ds.length:=by omega
   clear hsg hm1 hm2 hrv hdl2
   by_cases hneg:n<0
   ·go_upto_region 13 with (at_builtin;refine wpList_append1 rfl (.tmp 30) (.tmp 31) _ rfl (w.heap.size) 5 i0 _ 1 1 Tryz.underlying22 hi0 hz0 hz1 hz2 rfl (by omega) _ _ _ [] rfl HG.out [_] [.lit _] [] rfl 1 rfl (fun u hu=>by simp at hu;subst hu;rfl) (RepV.lits [_]) List.nodup_nil (fun b h=>by simp at h) 0 In.nil In.nil (by simp) (by simp) (by unfold maxLen;omega) (by omega) (by omega) ?_;intro v2 w3 hgn)
    have HX:Hid ((ds++[45]).reverse=Go.Lib.itoa n):=by show _=_;rw[HIT.out,if_pos hneg,List.reverse_append,HRV.out];rfl
    have hG2:Grow w3 w.heap.size 5 1 v2 (ds++[45]).length ((ds++[45]).map byteT) []:=by
     rw[List.length_append,List.map_append];exact hgn.grow
    have HB3:=Lib.hid (HB.out.trans hgn.below);have z3:=hgn.below.size;have hL1:0<(ds++[45]).length:=by simp
    have hL2:(ds++[45]).length≤22:=by simp<;>omega
    clear hgn;generalize ds++[45]=es at *;clear hneg;obtain⟨av,cv,fv,ev,ov,iv⟩:=hG2.toOwn (lo:=w.heap.size) (by omega) In.nil (by omega);subst ev;have hr:=ov.rd iv;obtain⟨a2,c2,e2,h3,h4,hcl2⟩:=Rd.bytes (l:=es) hr;injection e2 with e3 e4 e5;subst e3 e5;obtain⟨b2,off2,ea2,hb2,hat2⟩:=hcl2 hL1;subst ea2;have HAT:=Lib.hid hat2;clear hat2 hcl2 hr ov iv hG2 e4;have bE:=below_alloc w3 (.cells #[] 5);have HBE:=Lib.hid bE;have HGE:=Lib.hid (grow_none1 w3 5 0 (Nat.zero_le _));have hLi:(es.length:Int)≤22:=by omega
    clear bE;go_wp2;go_loopw [6,7] (fun v i wq=>∃ (k:Nat),k≤es.length∧i=.int .i64 ((es.length:Int)-1-(k:Int))∧Below w3.heap.size w3 wq∧Grow wq w3.heap.size 5 1 v k ((es.reverse.take k).map byteT) []) (fun _ i wq=>(intOf i+1).toNat)
    case atStart=>exact⟨0,Nat.zero_le _,by simp,HBE.out,by simpa using HGE.out⟩
    case round =>
     obtain⟨k,hk,rfl,hb,hgr⟩:=hrel;have HB4:=Lib.hid hb;have HG4:=Lib.hid hgr;have z4:=hb.size;clear hb hgr
     by_cases hlt:k<es.length
     ·have hj:es.length-1-k<es.length:=by omega
      have hc:=HAT.out (es.length-1-k) hj;rw[← bat HB4.out b2 _ hb2] at hc;have HTK:Hid (es.reverse.take (k+1)=es.reverse.take k++[es[es.length-1-k]]):=by
       show _=_
       rw[List.take_succ_eq_append_getElem (by rw[List.length_reverse];exact hlt),List.getElem_reverse]
      have hji:(es.length:Int)-1-(k:Int)=((es.length-1-k:Nat):Int):=by omega
      rw[hji];have hjl:((es.length-1-k:Nat):Int)<(es.length:Int):=by omega
      generalize es[es.length-1-k]=y at *;generalize es.length-1-k=j at *;go_wp2_with (at_builtin;refine wpList_append1 rfl (.tmp 41) (.tmp 46) _ rfl (w3.heap.size) 5 i0 _ 1 1 Tryz.underlying22 hi0 hz0 hz1 hz2 rfl (by omega) _ _ _ [] rfl HG4.out [_] [.lit _] [] rfl 1 rfl (fun u hu=>by simp at hu;subst hu;rfl) (RepV.lits [_]) List.nodup_nil (fun b h=>by simp at h) 0 In.nil In.nil (by simp) (by simp) (by unfold maxLen;omega) (by omega) (by omega) ?_;intro v5 w5 hgn);have HGN:=Lib.hid hgn;clear hgn;go_wp2;go_roundw
      case rel =>
       refine⟨k+1,by omega,?_,HB4.out.trans HGN.out.below,?_⟩
       ·congr 1;omega
       ·rw[HTK.out,List.map_append]
        exact HGN.out.grow
      case measure=>simp only[intOf];omega
     ·obtain rfl:k=es.length:=by omega
      rw[List.take_of_length_le (by rw[List.length_reverse];exact Nat.le_refl _),HX.out] at HG4;have hxl:(Go.Lib.itoa n).length=es.length:=by rw[← HX.out,List.length_reverse]
      rw[← hxl] at HG4;obtain⟨aw,cw,fw,ew,ow,iw⟩:=HG4.out.toOwn (lo:=w3.heap.size) (by omega) In.nil (by omega);subst ew;have hr:=ow.rd iw;obtain⟨a5,c5,e5,h5,h6,hcl5⟩:=Rd.bytes (l:=Go.Lib.itoa n) hr;injection e5 with e6 e7 e8;subst e6 e8;obtain⟨b5,off5,ea5,hb5,hat5⟩:=hcl5 (by omega);subst ea5;have hcv:=run_convert_bytes_back (P:=Tryz.prog) wr 22 9 5 ⟨b5,off5,none⟩ cw (Go.Lib.itoa n) Tryz.underlying22 Tryz.underlying5 Tryz.underlying9 (fun j hj=>by rw[addr_add];exact hat5 j hj);have BE:=Lib.hid (HB3.out.trans (HB4.out.mono (by omega)));clear hat5 hcl5 hr ow iw HG4 h5 h6 hb5 e7;generalize hit:Go.Lib.itoa n=it at *;rw[hxl];rw[hxl] at hcv;have hki:((es.length:Int)-1-(es.length:Int)<0):=by omega
      go_wp2;go_ret;exact⟨by first|rfl|(rw[hit];rfl)|(rw[← hit];rfl),BE.out⟩
   ·have HX:Hid (ds.reverse=Go.Lib.itoa n):=by show _=_;rw[HIT.out,if_neg hneg,HRV.out]
    have hG2:=HG.out;have HB3:=HB;have z3:=zr;have hL1:0<ds.length:=by omega
    have hL2:ds.length≤22:=by omega
    have hng:¬ n<0:=hneg;have hnn:(0:Int)≤n:=by omega
    clear hneg hng HEQ HRV;generalize wr=w3 at *;generalize ds=es at *;obtain⟨av,cv,fv,ev,ov,iv⟩:=hG2.toOwn (lo:=w.heap.size) (by omega) In.nil (by omega);subst ev;have hr:=ov.rd iv;obtain⟨a2,c2,e2,h3,h4,hcl2⟩:=Rd.bytes (l:=es) hr;injection e2 with e3 e4 e5;subst e3 e5;obtain⟨b2,off2,ea2,hb2,hat2⟩:=hcl2 hL1;subst ea2;have HAT:=Lib.hid hat2;clear hat2 hcl2 hr ov iv hG2 e4;have bE:=below_alloc w3 (.cells #[] 5);have HBE:=Lib.hid bE;have HGE:=Lib.hid (grow_none1 w3 5 0 (Nat.zero_le _));have hLi:(es.length:Int)≤22:=by omega
    clear bE;go_wp2;go_loopw [6,7] (fun v i wq=>∃ (k:Nat),k≤es.length∧i=.int .i64 ((es.length:Int)-1-(k:Int))∧Below w3.heap.size w3 wq∧Grow wq w3.heap.size 5 1 v k ((es.reverse.take k).map byteT) []) (fun _ i wq=>(intOf i+1).toNat)
    case atStart=>exact⟨0,Nat.zero_le _,by simp,HBE.out,by simpa using HGE.out⟩
    case round =>
     obtain⟨k,hk,rfl,hb,hgr⟩:=hrel;have HB4:=Lib.hid hb;have HG4:=Lib.hid hgr;have z4:=hb.size;clear hb hgr
     by_cases hlt:k<es.length
     ·have hj:es.length-1-k<es.length:=by omega
      have hc:=HAT.out (es.length-1-k) hj;rw[← bat HB4.out b2 _ hb2] at hc;have HTK:Hid (es.reverse.take (k+1)=es.reverse.take k++[es[es.length-1-k]]):=by
       show _=_
       rw[List.take_succ_eq_append_getElem (by rw[List.length_reverse];exact hlt),List.getElem_reverse]
      have hji:(es.length:Int)-1-(k:Int)=((es.length-1-k:Nat):Int):=by omega
      rw[hji];have hjl:((es.length-1-k:Nat):Int)<(es.length:Int):=by omega
      generalize es[es.length-1-k]=y at *;generalize es.length-1-k=j at *;go_wp2_with (at_builtin;refine wpList_append1 rfl (.tmp 41) (.tmp 46) _ rfl (w3.heap.size) 5 i0 _ 1 1 Tryz.underlying22 hi0 hz0 hz1 hz2 rfl (by omega) _ _ _ [] rfl HG4.out [_] [.lit _] [] rfl 1 rfl (fun u hu=>by simp at hu;subst hu;rfl) (RepV.lits [_]) List.nodup_nil (fun b h=>by simp at h) 0 In.nil In.nil (by simp) (by simp) (by unfold maxLen;omega) (by omega) (by omega) ?_;intro v5 w5 hgn);have HGN:=Lib.hid hgn;clear hgn;go_wp2;go_roundw
      case rel =>
       refine⟨k+1,by omega,?_,HB4.out.trans HGN.out.below,?_⟩
       ·congr 1;omega
       ·rw[HTK.out,List.map_append]
        exact HGN.out.grow
      case measure=>simp only[intOf];omega
     ·obtain rfl:k=es.length:=by omega
      rw[List.take_of_length_le (by rw[List.length_reverse];exact Nat.le_refl _),HX.out] at HG4;have hxl:(Go.Lib.itoa n).length=es.length:=by rw[← HX.out,List.length_reverse]
      rw[← hxl] at HG4;obtain⟨aw,cw,fw,ew,ow,iw⟩:=HG4.out.toOwn (lo:=w3.heap.size) (by omega) In.nil (by omega);subst ew;have hr:=ow.rd iw;obtain⟨a5,c5,e5,h5,h6,hcl5⟩:=Rd.bytes (l:=Go.Lib.itoa n) hr;injection e5 with e6 e7 e8;subst e6 e8;obtain⟨b5,off5,ea5,hb5,hat5⟩:=hcl5 (by omega);subst ea5;have hcv:=run_convert_bytes_back (P:=Tryz.prog) wr 22 9 5 ⟨b5,off5,none⟩ cw (Go.Lib.itoa n) Tryz.underlying22 Tryz.underlying5 Tryz.underlying9 (fun j hj=>by rw[addr_add];exact hat5 j hj);have BE:=Lib.hid (HB3.out.trans (HB4.out.mono (by omega)));clear hat5 hcl5 hr ow iw HG4 h5 h6 hb5 e7;generalize hit:Go.Lib.itoa n=it at *;rw[hxl];rw[hxl] at hcv;have hki:((es.length:Int)-1-(es.length:Int)<0):=by omega
      go_wp2;go_ret;exact⟨by first|rfl|(rw[hit];rfl)|(rw[← hit];rfl),BE.out⟩
end Go.Proofs.YtmkkiglcpedkiaaGreatDoor
