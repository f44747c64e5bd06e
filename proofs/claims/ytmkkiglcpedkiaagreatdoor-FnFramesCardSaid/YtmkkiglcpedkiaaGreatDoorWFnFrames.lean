/- The walk of the law FnFrames: it returns true. -/
import Derived.Test.YtmkkiglcpedkiaaGreatDoorFr3
import Derived.Test.YtmkkiglcpedkiaaGreatDoorLr8
set_option linter.unusedVariables false
set_option linter.unusedSimpArgs false
namespace Go.Proofs.YtmkkiglcpedkiaaGreatDoor
open Go.RowKit
set_option maxHeartbeats 4000000
set_option maxRecDepth 100000
def R8Rg (w:World) (e:Ending) (w':World):Prop:=∃ (r:DRegister) (v0 v1:Value),regB r=true∧e=.returned (.agg #[v0,v1])∧RegP w.heap.size w'.heap.size w' r v0 v1∧Below w.heap.size w w'
theorem R8Register_any (l:List UInt8) (v:Value) (w:World) (h:Rd w.heap.size w (bsT l) v):Calls Tryz.prog 5 #[v] w (R8Rg w):=by
 have H0:=Lib.hid h;clear h;go_enter Tryz.func5,Tryz.ntmps5;go_upto_region 1 with (fail);obtain⟨W0,hW0,b0,z0,k0⟩:=boxes1 w #[.slice none 0 0,.slice none 0 0] 27;rw[hW0];clear hW0;have HK:=Lib.hid k0;have HF:=Lib.hid (l00From_any l v W0 ((H0.out.below b0).mono (by omega)));have HB0:=Lib.hid b0;clear b0 k0 H0;go_wp2_with (fail)
 go_at_call 13
 refine HF.out.mono ?_;rintro e w1 ⟨rfl,S1,b1,z1⟩;have HK1:=Lib.hid (bkB HK.out b1 (by omega));have HB1:=Lib.hid (HB0.out.trans (b1.mono (by omega)));have CD:=Lib.hid (l28Draw_any _ _ w1 S1 (by omega));clear S1 b1 HF HK HB0;go_wp2_with (fail)
 go_at_call 14
 refine CD.out.mono ?_;rintro e w2 ⟨r,v0,v1,hr,rfl,hp,k2,_,g2,S2,C2⟩;have HB2:Hid (Below w.heap.size w w2):=HB1.out.trans (C2.below (by omega) (fun x hx=>by simp at hx;omega));have HK2:=Lib.hid ((C2.block _ (by omega) (by simp<;>omega)).trans HK1.out);have HP:=Lib.hid hp;have z2:=C2.size;clear hp S2 C2 CD HK1 HB1;obtain⟨A0,C0,A1,C1,rfl,rfl⟩:=HP.out.form;have f0:=bkF HK2.out 0;have f1:=bkF HK2.out 1;have s0:=bkC HK2.out 0 rfl;have s1:=bkC HK2.out 1 rfl;go_wp2;refine bodyPost_ret (v:=.agg #[.slice A0 r.records.length C0,.slice A1 r.changes.length C1]) (by simp[results,Tryz.results5,go_sem, *]) rfl ?_;refine⟨r,_,_,hr,rfl,(HP.out.frame (fun y hy _=>?_)).mono (by omega) (by simp),(HB2.out.setCell (p:=⟨w.heap.size,0,none⟩) (Nat.le_refl _) _).setCell (p:=⟨w.heap.size,1,none⟩) (Nat.le_refl _) _⟩;rw[bkO rfl (p:=⟨w.heap.size,1,none⟩) (by show y≠w.heap.size;omega) _,bkO rfl (p:=⟨w.heap.size,0,none⟩) (by show y≠w.heap.size;omega) _]
theorem sameRs_self (l:List DRecord):sameRs l l=true:=sameRs_iff.2 rfl
theorem sSameRegister_eq (r:DRegister) (v0 v1 u0 u1:Value) (w:World) (h0:Rd w.heap.size w (DRecord.sT r.records) v0) (h1:Rd w.heap.size w (DChange.sT r.changes) v1) (g0:Rd w.heap.size w (DRecord.sT r.records) u0) (g1:Rd w.heap.size w (DChange.sT r.changes) u1) (hn0:r.records.length≤1000) (hn1:r.changes.length≤1000) :
  Calls Tryz.prog 9 #[.agg #[v0,v1],.agg #[u0,u1]] w fun e w'=>e=.returned (.bool true)∧Below w.heap.size w w':=by
 obtain⟨A0,C0,rfl,_,_,_⟩:=DRecord.rd h0;obtain⟨D0,E0,rfl,_,_,_⟩:=DRecord.rd g0;obtain⟨A1,C1,rfl,_,_,hat⟩:=DChange.rd h1;obtain⟨D1,E1,rfl,_,_,hat'⟩:=DChange.rd g1;have H0:=Lib.hid h0;have G0:=Lib.hid g0;have HAT:=Lib.hid hat;have HAT':=Lib.hid hat';clear h0 h1 g0 g1 hat hat';go_enter Tryz.func9,Tryz.ntmps9;go_upto_region 1 with (fail);obtain⟨W0,hW0,b0,z0,k0,k1⟩:=boxes2 w #[.slice A0 r.records.length C0,.slice A1 r.changes.length C1] 27 #[.slice D0 r.records.length E0,.slice D1 r.changes.length E1] 27;rw[hW0];clear hW0;obtain⟨p,hp⟩:∃ p,p=w.heap.size:=⟨_,rfl⟩
 obtain⟨q,hq⟩:∃ q,q=w.heap.size+1:=⟨_,rfl⟩
 rw[← hp] at k0;rw[← hq] at k1;have K0:=Lib.hid k0;have K1:=Lib.hid k1;have HB0:=Lib.hid b0;have CS:=Lib.hid (l28Same_any r.records r.records _ _ W0.heap.size W0 ((H0.out.below b0).mono (by omega)) ((G0.out.below b0).mono (by omega)) (Nat.le_refl _) (by omega) (by omega));rw[sameRs_self] at CS;have pw:p<W0.heap.size:=by omega
 have qw:q<W0.heap.size:=by omega
 have pq:w.heap.size≤p:=by omega
 rw[← hq,← hp];clear b0 k0 k1 H0 G0 hp hq;have t0:=bkC K0.out 0 rfl;have t1:=bkC K0.out 1 rfl;have t2:=bkC K1.out 0 rfl;have t3:=bkC K1.out 1 rfl;go_wp2_with (fail)
 go_at_call 23
 refine CS.out.mono ?_;rintro e w1 ⟨rfl,hb⟩;have K2:=Lib.hid (bkB K0.out hb pw);have K3:=Lib.hid (bkB K1.out hb qw);have HB1:=Lib.hid (HB0.out.trans (hb.mono (by omega)));have z1:=hb.size;clear t0 t1 t2 t3 hb HB0 K0 K1 CS;have t0:=bkC K2.out 0 rfl;have t1:=bkC K2.out 1 rfl;have t2:=bkC K3.out 0 rfl;have t3:=bkC K3.out 1 rfl;have hl:(r.changes.length:Int)≤1000:=by omega
 have hne:((r.changes.length:Int) != (r.changes.length:Int))=false:=by simp
 go_wp2;go_loopw [5] (fun i wr=>∃ (k:Nat),k≤r.changes.length∧i=.int .i64 (k:Int)∧Below w1.heap.size w1 wr) (fun i wr=>r.changes.length-(intOf i).toNat)
 case atStart=>exact⟨0,Nat.zero_le _,rfl,Below.refl _ _⟩
 case round =>
  obtain⟨k,hk,rfl,hb⟩:=hrel;have HB:=Lib.hid hb;have zr:=hb.size;clear t0 t1 t2 t3;have K4:=Lib.hid (bkB K2.out hb (by omega));have K5:=Lib.hid (bkB K3.out hb (by omega));have t0:=bkC K4.out 0 rfl;have t1:=bkC K4.out 1 rfl;have t2:=bkC K5.out 0 rfl;have t3:=bkC K5.out 1 rfl;clear hb
  by_cases hlt:k<r.changes.length
  ·obtain⟨b,off,rfl,hbl,hat⟩:=HAT.out (by omega)
   obtain⟨b',off',rfl,hbl',hat'⟩:=HAT'.out (by omega);obtain⟨s0,s1,s2,s3⟩:=hat k hlt;obtain⟨c0,c1,c2,c3⟩:=hat' k hlt;have BW:=HB1.out.trans (HB.out.mono (by have:=HB1.out.size;omega));rw[← BW.cell (p:=⟨b,_,none⟩) (show b<w.heap.size by omega)] at s0 s1 s2 s3;rw[← BW.cell (p:=⟨b',_,none⟩) (show b' < w.heap.size by omega)] at c0 c1 c2 c3;have HBW:=Lib.hid BW;have yr:=BW.size;have j0:(0:Int)≤(k:Int):=by omega
   have j1:(k:Int)<(r.changes.length:Int):=by omega
   clear hat hat' BW HAT HAT';have oB:=overC (w0:=wr) (show b<wr.heap.size by omega);have oB2:=overC (w0:=wr) (show b' < wr.heap.size by omega);have oB3:=overC (w0:=wr) (show p<wr.heap.size by omega);have oB4:=overC (w0:=wr) (show q<wr.heap.size by omega);generalize r.changes[k]=X at *;go_upto_region 6 with (fail);refine wp_region_over wr.heap.size wr (Below.refl _ _) (by kernel_rfl) (by kernel_rfl) ?_
   repeat (go_big_quiet_step (fail))
   refine wpQuiet_nil ?_;rintro _ ⟨Z,rfl⟩;have BE:=Lib.hid (HB.out.trans ((over_below wr.heap.size wr Z).mono (by omega)));clear oB oB2 oB3 oB4 s0 s1 s2 s3 c0 c1 c2 c3 t0 t1 t2 t3;generalize over wr.heap.size wr Z=w2 at *;have K6:=Lib.hid (bkB K2.out BE.out (by omega));have t0:=bkC K6.out 0 rfl;have t1:=bkC K6.out 1 rfl;go_wp2;go_roundw
   case rel=>exact⟨k+1,by omega,by go_num,BE.out⟩
   case measure=>simp[intOf];omega
  ·obtain rfl:k=r.changes.length:=by omega
   have j1:¬ (r.changes.length:Int)<(r.changes.length:Int):=by omega
   have HE:=Lib.hid (HB1.out.trans (HB.out.mono (by have:=HB1.out.size;omega)));go_wp2;go_ret;exact⟨rfl,HE.out⟩
theorem r8Wide_any (l:List UInt8) (k n:Int) (v:Value) (w:World) (h:Rd w.heap.size w (bsT l) v) (hk:0≤k∧k≤1000) (hn:1≤n∧n≤1099511627776) :
  Calls Tryz.prog 11 #[v,.int .i64 k,.int .i64 n] w fun e w'=>(∃ x:Int,0≤x∧x<n∧e=.returned (.int .i64 x))∧w=w':=by
 have C1:=Lib.hid (r8At_any l k 256 v w h ⟨by omega,by omega⟩ ⟨by omega,by omega⟩);have C2:=Lib.hid (r8At_any l (k+1) 256 v w h ⟨by omega,by omega⟩ ⟨by omega,by omega⟩);have b1:=r8V_bd l k 256 (by omega);have b2:=r8V_bd l (k+1) 256 (by omega);obtain⟨a,c,rfl,_,_,_⟩:=h.bs;clear h;generalize r8V l k 256=x at *;generalize r8V l (k+1) 256=y at *;have HM:Hid (0≤(256*x+y) % n∧(256*x+y) % n<n):=by
  show _∧_
  exact⟨Int.emod_nonneg _ (by omega),Int.emod_lt_of_pos _ (by omega)⟩
 have i1:IntKind.i64.wrap (256*x)=256*x:=IntWalk.i64_in _ (by omega);have i2:IntKind.i64.wrap (256*x+y)=256*x+y:=IntWalk.i64_in _ (by omega);have i3:IntKind.i64.wrap (k+1)=k+1:=IntWalk.i64_in _ (by omega);have i4:IntKind.i64.wrap ((256*x+y) % n)=(256*x+y) % n:=IntWalk.i64_in _ (by have:=HM.out;omega);have nz:(n == 0)=false:=by simp<;>omega
 go_enter Tryz.func11,Tryz.ntmps11;go_wp2_with (fail)
 go_at_call 12
 refine C1.out.mono ?_;rintro e _ ⟨rfl,rfl⟩;go_wp2_with (fail)
 go_at_call 12
 refine C2.out.mono ?_;rintro e _ ⟨rfl,rfl⟩;go_wp2;go_ret;exact⟨⟨_,HM.out.1,HM.out.2,rfl⟩,rfl⟩
theorem line_short {c:DChange} (h:changeB c=true):(lineL c).length≤600:=by
 have hp:=changeB_parts h;have l1:=changeB_len h;have lk:c.key.size≤10:=by
  have:=hp.2.1;unfold nameB at this;simp only[Bool.and_eq_true,decide_eq_true_eq] at this;exact this.2.1
 have h1:=Go.Lib.itoa_length_le c.day (by omega) (by omega);have h2:=Go.Lib.itoa_length_le (c.old_.size:Int) (by omega) (by omega);have h3:=Go.Lib.itoa_length_le (c.new_.size:Int) (by omega) (by omega);have hc:=crc_range (bodyL c);have h4:=Go.Lib.itoa_length_le (crcL (bodyL c) 65535) (by omega) (by omega);unfold lineL;rw[List.length_append,List.length_cons];rw[show (bodyL c).length=_ from congrArg List.length (body_eq c)];simp only[List.length_append,List.length_cons,List.length_nil,bl_len];omega
theorem text_short {r:DRegister} (h:regB r=true):(textK r r.changes.length).length≤60000:=by
 obtain⟨_,_,_,hc,hn⟩:=reg_changes h;have key:∀ k,k≤r.changes.length→(textK r k).length≤100+k*700:=by
  intro k
  induction k with
  | zero =>
   intro _;rw[textK_zero,List.length_append];have:=headL_len (I64_nat (n:=r.changes.length) (by omega));simp<;>omega
  | succ k ih =>
   intro hk;have h1:=ih (by omega);rw[textK_succ r k (by omega),List.length_append,List.length_append];have:=line_short (hc _ (List.getElem_mem (show k<r.changes.length by omega)));simp<;>omega
 have:=key _ (Nat.le_refl _);omega
theorem text_some {r:DRegister} (h:regB r=true):0<(textK r r.changes.length).length:=by
 unfold textK;simp only[List.length_append,List.length_cons];omega
theorem xor_byte (b:UInt8) (k:Int) (h0:1≤k) (h1:k≤255):∃ b':UInt8,b≠b'∧bits .xor .u8 (b.toNat:Int) k=(b'.toNat:Int):=by
 obtain⟨n,rfl⟩:=Int.eq_ofNat_of_zero_le (show 0≤k by omega);have hb:=b.toNat_lt;have hx:b.toNat ^^^ n<2 ^ 8:=Nat.xor_lt_two_pow (by omega) (by omega);refine⟨UInt8.ofNat (b.toNat ^^^ n),fun e=>?_,?_⟩
 ·have:=congrArg UInt8.toNat e
  rw[UInt8.toNat_ofNat'] at this;rw[Nat.mod_eq_of_lt hx] at this;have h2:b.toNat ^^^ 0=b.toNat ^^^ n:=by rw[Nat.xor_zero];exact this
  have h3:=xor_cancel' h2;omega
 ·rw[UInt8.toNat_ofNat',Nat.mod_eq_of_lt hx]
  show IntKind.u8.wrap ((BitVec.ofInt 8 (b.toNat:Int) ^^^ BitVec.ofInt 8 (n:Int)).toNat:Int)=_
  rw[BitVec.toNat_xor,BitVec.toNat_ofInt,BitVec.toNat_ofInt];have e1:((b.toNat:Int) % ((2 ^ 8:Nat):Int)).toNat=b.toNat:=by omega
  have e2:((n:Int) % ((2 ^ 8:Nat):Int)).toNat=n:=by omega
  rw[e1,e2];rw[IntKind.wrap_u8];have:((b.toNat ^^^ n:Nat):Int)<256:=by omega
  omega
theorem bytesW (w:World) (e:TypeId) (s:ByteArray):∃ W,Lib.bytesWorld w e s=W∧Below w.heap.size w W∧W.heap.size=w.heap.size+1∧(∀ j (hj:j<(bl s).length),W.cell? ⟨w.heap.size,j,none⟩=some (.int .u8 ((bl s)[j].toNat:Int)))∧∀ j,j<(bl s).length→W.frozen? ⟨w.heap.size,j,none⟩=false:=by
 refine⟨_,rfl,⟨?_,?_,?_,by rw[Lib.bytesWorld_size];omega,fun b hb=>Lib.bytesWorld_at_old w e s b hb⟩,Lib.bytesWorld_size w e s,fun j hj=>?_,fun j hj=>?_⟩
 ·simp[Lib.bytesWorld,World.freeze,World.alloc,World.drew,-World.alloc_eq,-World.drew_eq]
 ·simp[Lib.bytesWorld,World.freeze,World.alloc,World.drew,-World.alloc_eq,-World.drew_eq]
 ·simp[Lib.bytesWorld,World.freeze,World.alloc,World.drew,-World.alloc_eq,-World.drew_eq]
 ·have hj2:j<s.size:=by rw[bl_len] at hj;exact hj
  rw[Lib.bytesWorld_cell w e s j hj2];unfold bl;rw[List.getD_eq_getElem?_getD,List.getElem?_eq_getElem (by unfold bl at hj;exact hj),Option.getD_some]
 ·unfold World.frozen?
  simp only[Lib.bytesWorld_at_new];have hc:s.size≤(Lib.bytesCells w e s).size:=by unfold Lib.bytesCells;simp
  rw[bl_len] at hj;have:¬ (Lib.bytesCells w e s).size≤j:=by omega
  simp[this]
end Go.Proofs.YtmkkiglcpedkiaaGreatDoor
namespace Go.Proofs.YtmkkiglcpedkiaaGreatDoor.fnFrames
open Go.RowKit
set_option maxHeartbeats 16000000
set_option maxRecDepth 100000
theorem walk (code more:List UInt8) (v0 v1:Value) (w:World) (L:LibW w) (h0:Rd w.heap.size w (bsT code) v0) (h1:Rd w.heap.size w (bsT more) v1) :
  Calls Tryz.prog 3 #[v0,v1] w fun e w'=>e=.returned (.bool true)∧Below w.heap.size w w':=by
 have HLA:=Lib.hid (r8Long_any code more v0 v1 w h0 h1);have HP:=Lib.hid (R8Register_any code v0 w h0);have HL:=Lib.hid L;have HM:=Lib.hid h1;obtain⟨x0,y0,rfl,_,_,_⟩:=h0.bs;obtain⟨x1,y1,rfl,_,_,_⟩:=h1.bs;clear h0 h1 L
 by_cases hlong:longB code more=true
 ·rw[hlong] at HLA
  clear hlong;go_enter Tryz.func3,Tryz.ntmps3;go_wp2_with (fail)
  go_at_call 4
  refine HLA.out.mono ?_;rintro e w' ⟨rfl,rfl⟩;go_wp2;go_ret;exact⟨rfl,Below.refl _ _⟩
 rw[Bool.not_eq_true] at hlong;rw[hlong] at HLA;clear hlong;go_enter Tryz.func3,Tryz.ntmps3;go_wp2_with (fail)
 go_at_call 4
 refine HLA.out.mono ?_;rintro e _ ⟨rfl,rfl⟩;clear HLA;go_wp2_with (fail)
 go_at_call 5
 refine HP.out.mono ?_;rintro e w1 ⟨r,u0,u1,hr,rfl,hp,hb1⟩;have HR:=Lib.hid hr;have HRP:=Lib.hid hp.rd;obtain⟨A0,C0,A1,C1,rfl,rfl⟩:=hp.form;clear HP hp hr;have z1:=hb1.size;go_upto_region 4 with (fail);obtain⟨W2,hW2,b2,z2,k2⟩:=boxes1 w1 #[.slice A0 r.records.length C0,.slice A1 r.changes.length C1] 27;rw[hW2];clear hW2;obtain⟨p,hp⟩:∃ p,p=w1.heap.size:=⟨_,rfl⟩
 rw[← hp] at k2 ⊢;have K2:=Lib.hid k2;have pw:p<W2.heap.size:=by omega
 have wp_:w.heap.size≤p:=by omega
 have R2:Hid (Rd W2.heap.size W2 (DRecord.sT r.records) (.slice A0 r.records.length C0)∧Rd W2.heap.size W2 (DChange.sT r.changes) (.slice A1 r.changes.length C1)):=⟨(HRP.out.1.below b2).mono (by omega),(HRP.out.2.below b2).mono (by omega)⟩
 have B2:=Lib.hid (hb1.trans (b2.mono z1));clear k2 b2 HRP hp z2 hb1;have hsm:=regB_small HR.out;have CSmall:Hid (∀ x ∈ r.changes,ChSmall x):=fun x hx=>by
  have:=hsm.2.2.2 x hx;exact⟨⟨by omega,by omega⟩,by omega,by omega,by omega⟩
 have hn0:r.records.length≤1000:=by omega
 have hn1:r.changes.length≤1000:=by omega
 clear hsm;have hsv:saveR r=(ofL (textK r r.changes.length),0):=by unfold saveR;rw[if_pos HR.out]
 have hts:=text_short HR.out;have CI:=Lib.hid (iSaveRegister_any r _ _ W2 (HL.out.mono B2.out) R2.out.1 R2.out.2 (by omega) (by omega) (regB_ok HR.out) CSmall.out);rw[hsv] at CI;obtain⟨T,hT⟩:∃ T,T=textK r r.changes.length:=⟨_,rfl⟩
 have HT:=Lib.hid hT;rw[← hT] at CI hsv hts;have HSV:=Lib.hid hsv;clear hT hsv;have t0:=bkC K2.out 0 rfl;have t1:=bkC K2.out 1 rfl;go_wp2_with (fail)
 go_at_call 6
 refine CI.out.mono ?_;rintro e w3 ⟨rfl,hb⟩;have K3:=Lib.hid (bkB K2.out hb pw);have R3:=Lib.hid (And.intro ((R2.out.1.below hb).mono hb.size) ((R2.out.2.below hb).mono hb.size));have B3:=Lib.hid (B2.out.trans (hb.mono B2.out.size));have z3:=hb.size;clear hb CI K2 R2 t0 t1;have CL:=Lib.hid (iLoadRegister_any (ofL T) (by rw[ofL_size];omega) w3 (HL.out.mono B3.out));have hlt:loadR (bl (ofL T))=(r,0,0):=by rw[bl_ofL,HT.out];exact load_text HR.out
 rw[hlt] at CL;clear hlt;go_wp2_with (fail)
 go_at_call 7
 refine CL.out.mono ?_;rintro e w4 ⟨a0,c0,a1,c1,fp,rfl,hb,ov,iv⟩;have K4:=Lib.hid (bkB K3.out hb (by omega));have R4:=Lib.hid (And.intro ((R3.out.1.below hb).mono hb.size) ((R3.out.2.below hb).mono hb.size));have B4:=Lib.hid (B3.out.trans (hb.mono B3.out.size));have hrp:RegP w3.heap.size w4.heap.size w4 r (.slice a0 r.records.length c0) (.slice a1 r.changes.length c1):=⟨fp,ov,iv⟩
 have G4:=Lib.hid hrp.rd;have z4:=hb.size;clear hb CL K3 R3 hrp ov iv;go_upto_region 6 with (fail);obtain⟨W5,hW5,b5,z5,k5⟩:=boxes1 w4 #[.slice a0 r.records.length c0,.slice a1 r.changes.length c1] 27;rw[hW5];clear hW5;obtain⟨q,hq⟩:∃ q,q=w4.heap.size:=⟨_,rfl⟩
 rw[← hq] at k5 ⊢;have Q5:=Lib.hid k5;have K5:=Lib.hid (bkB K4.out b5 (by omega));have R5:=Lib.hid (And.intro ((R4.out.1.below b5).mono b5.size) ((R4.out.2.below b5).mono b5.size));have G5:=Lib.hid (And.intro ((G4.out.1.below b5).mono b5.size) ((G4.out.2.below b5).mono b5.size));have B5:=Lib.hid (B4.out.trans (b5.mono B4.out.size));have qw:q<W5.heap.size:=by omega
 have pw5:p<W5.heap.size:=by omega
 clear b5 k5 K4 R4 G4 hq z5;have CD:=Lib.hid (iDamagedFrames_any (ofL T) (by rw[ofL_size];omega) W5 (HL.out.mono B5.out));have hdt:dmgR (bl (ofL T))=([],0):=by rw[bl_ofL,HT.out];exact dmg_text HR.out
 rw[hdt] at CD;clear hdt;go_wp2_with (fail)
 go_at_call 8
 refine CD.out.mono ?_;rintro e w6 ⟨a,c,fp,rfl,hb,_,_⟩;have K6:=Lib.hid (bkB K5.out hb pw5);have Q6:=Lib.hid (bkB Q5.out hb qw);have R6:=Lib.hid (And.intro ((R5.out.1.below hb).mono hb.size) ((R5.out.2.below hb).mono hb.size));have G6:=Lib.hid (And.intro ((G5.out.1.below hb).mono hb.size) ((G5.out.2.below hb).mono hb.size));have B6:=Lib.hid (B5.out.trans (hb.mono B5.out.size));have z6:=hb.size;clear hb CD K5 Q5 R5 G5;simp only[List.length_nil];have t0:=bkC K6.out 0 rfl;have t1:=bkC K6.out 1 rfl;have t2:=bkC Q6.out 0 rfl;have t3:=bkC Q6.out 1 rfl;have CS:=Lib.hid (sSameRegister_eq r _ _ _ _ w6 G6.out.1 G6.out.2 R6.out.1 R6.out.2 hn0 hn1);go_wp2_with (fail)
 go_at_call 9
 refine CS.out.mono ?_;rintro e w7 ⟨rfl,hb⟩;have K7:=Lib.hid (bkB K6.out hb (by omega));have R7:=Lib.hid (And.intro ((R6.out.1.below hb).mono hb.size) ((R6.out.2.below hb).mono hb.size));have B7:=Lib.hid (B6.out.trans (hb.mono B6.out.size));have z7:=hb.size;clear hb CS K6 Q6 R6 G6 t0 t1 t2 t3;have t0:=bkC K7.out 0 rfl;have t1:=bkC K7.out 1 rfl;have CV:=Lib.hid (sSaveRegister_any r _ _ w7 R7.out.1 R7.out.2 (by omega) (by omega) (regB_ok HR.out) CSmall.out);rw[HSV.out] at CV;go_wp2_with (fail)
 go_at_call 10
 refine CV.out.mono ?_;rintro e w8 ⟨rfl,hb⟩;have B8:=Lib.hid (B7.out.trans (hb.mono B7.out.size));clear hb CV K7 R7 t0 t1 CSmall HSV;have hcv:=Lib.run_convert_string_bytes (P:=Tryz.prog) w8 9 22 5 (ofL T) (u:=.string) Tryz.underlying9 Tryz.underlying22 Tryz.underlying5;obtain⟨W9,hW9,b9,z9,hat,hfr⟩:=bytesW w8 5 (ofL T);rw[hW9] at hcv;clear hW9;rw[bl_ofL] at hat hfr;rw[ofL_size] at hcv;have hT0:0<T.length:=by rw[HT.out];exact text_some HR.out
 have CW:=Lib.hid (r8Wide_any more 0 (T.length:Int) _ W9 ((HM.out.below (B8.out.trans (b9.mono B8.out.size))).mono (B8.out.trans (b9.mono B8.out.size)).size) ⟨by omega,by omega⟩ ⟨by omega,by omega⟩);have B9:=Lib.hid (B8.out.trans (b9.mono B8.out.size));have HAT:=Lib.hid hat;have HFR:=Lib.hid hfr;obtain⟨cap,hcap⟩:∃ cap,cap=grownCap w8 T.length 0 5:=⟨_,rfl⟩
 rw[← hcap] at hcv;clear b9 hat hfr hcap;obtain⟨y,hy⟩:∃ y,y=w8.heap.size:=⟨_,rfl⟩
 rw[← hy] at hcv HAT HFR;have wy:w.heap.size≤y:=by have:=B8.out.size;omega
 have yw:y<W9.heap.size:=by omega
 clear hy z9;have hTi:(T.length:Int)≤60000:=by omega
 go_wp2_with (fail)
 go_at_call 11
 refine CW.out.mono ?_;rintro e _ ⟨⟨at_,ha0,ha1,rfl⟩,rfl⟩;obtain⟨n,rfl⟩:=Int.eq_ofNat_of_zero_le ha0;have hn:n<T.length:=by omega
 clear CW hcv ha0;have b1:=r8V_bd more 2 255 (by omega);have CR:=Lib.hid fun X=>r8At_any more 2 255 _ (over W9.heap.size W9 X) ((HM.out.below (B9.out.trans ((over_below W9.heap.size W9 X).mono B9.out.size))).mono (by have:=(over_below W9.heap.size W9 X).size;have:=B9.out.size;omega)) ⟨by omega,by omega⟩ ⟨by omega,by omega⟩
 generalize r8V more 2 255=V at *;obtain⟨b',hbn,hbx⟩:=xor_byte T[n] (1+V) (by omega) (by omega);have hsplit:textK r r.changes.length=T.take n++T[n]::T.drop (n+1):=by
  rw[← HT.out];have e:=List.take_append_drop n T;rw[List.drop_eq_getElem_cons hn] at e;exact e.symm
 have HBAD:=Lib.hid (text_changed HR.out hbn hsplit);have hset:T.take n++b'::T.drop (n+1)=T.set n b':=by rw[List.set_eq_take_append_cons_drop,if_pos hn]
 rw[hset] at HBAD;clear hset hsplit hbn;have s0:=HAT.out n hn;generalize hx:((T[n].toNat:Nat):Int)=x at *;clear hx;have w1_:IntKind.i64.wrap (1+V)=1+V:=IntWalk.i64_in _ (by omega);have w2_:IntKind.u8.wrap (1+V)=1+V:=by rw[IntKind.wrap_u8];omega
 have oY:=overC (w0:=W9) yw;have j0:(0:Int)≤(n:Int):=by omega
 have j1:(n:Int)<(T.length:Int):=by omega
 go_upto_region 12 with (fail);refine wp_region_over_tail 9 W9.heap.size W9 (Below.refl _ _) (by kernel_rfl) (by kernel_rfl) ?_;simp only[List.take_succ_cons,List.take_zero,List.drop_succ_cons,List.drop_zero]
 repeat (go_big_quiet_step (first|(go_at_call 12;exact over_same (CR.out _))))
 refine wpQuiet_nil ?_;intro X;have hX:=over_below W9.heap.size W9 X;clear oY;generalize over W9.heap.size W9 X=w10 at *;have c0:=(hX.cell (p:=⟨y,n,none⟩) yw).trans s0;have f0:=(hX.frozen (p:=⟨y,n,none⟩) yw).trans (HFR.out n hn);have B10:=Lib.hid (B9.out.trans (hX.mono B9.out.size));have z10:=hX.size;have HC:Hid (∀ j (hj:j<T.length),(w10.setCell ⟨y,n,none⟩ (.int .u8 (b'.toNat:Int))).cell? ⟨y,j,none⟩=some (.int .u8 ((T.set n b')[j]'(by rw[List.length_set];exact hj)).toNat)):=fun j hj=>by
  rw[List.getElem_set]
  by_cases e:n=j
  ·subst e
   rw[if_pos rfl];simp[go_sem,c0]
  ·rw[if_neg e]
   have:=(hX.cell (p:=⟨y,j,none⟩) yw).trans (HAT.out j hj);rw[← this];simp[go_sem,e,Ne.symm e]
 obtain⟨W11,hW11⟩:∃ W11,w10.setCell ⟨y,n,none⟩ (.int .u8 (b'.toNat:Int))=W11:=⟨_,rfl⟩
 have B11:Hid (Below w.heap.size w W11):=by rw[← hW11];exact B10.out.setCell (p:=⟨y,n,none⟩) wy _
 rw[hW11] at HC;have hcv:=run_convert_bytes_back (P:=Tryz.prog) W11 22 9 5 ⟨y,0,none⟩ cap (T.set n b') Tryz.underlying22 Tryz.underlying5 Tryz.underlying9 (fun j hj=>by rw[addr_add,Nat.zero_add];exact HC.out j (by rw[List.length_set] at hj;exact hj));have hln:(T.set n b').length=T.length:=List.length_set;rw[hln] at hcv;have CL:=Lib.hid (iLoadRegister_any (ofL (T.set n b')) (by rw[ofL_size,hln];omega) W11 (HL.out.mono B11.out));rw[bl_ofL] at CL;rw[show (⟨(T.set n b').toArray⟩:ByteArray)=ofL (T.set n b') from rfl] at hcv;clear HC;generalize T.set n b' = TT at *;generalize hLR:loadR TT=LR at *;clear hX s0 hln HAT HFR HT z10 hLR;go_wp2_with (fail)
 go_at_call 7
 refine CL.out.mono ?_;rintro e w12 ⟨a4,c4,a5,c5,fp,rfl,hb,_,_⟩;have B12:=Lib.hid (B11.out.trans (hb.mono B11.out.size));obtain⟨LA,LB,LC⟩:=LR;have hne:(LC != 0)=true:=by simpa using HBAD.out
 clear hb CL hcv hW11;go_upto_region 14 with (fail);obtain⟨W13,hW13,b13,z13,_⟩:=boxes1 w12 #[.slice a4 LA.records.length c4,.slice a5 LA.changes.length c5] 27;rw[hW13];clear hW13;have BF:=Lib.hid (B12.out.trans (b13.mono B12.out.size));clear b13;go_wp2;go_ret;exact⟨rfl,BF.out⟩
end Go.Proofs.YtmkkiglcpedkiaaGreatDoor.fnFrames
