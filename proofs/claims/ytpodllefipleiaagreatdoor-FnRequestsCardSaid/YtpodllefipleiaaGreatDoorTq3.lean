/- Contract: drawn requests of the reference: some small requests of bounded number. Condition: a place in the source that is not too great. -/
import Derived.Test.YtpodllefipleiaaGreatDoorTq2
set_option linter.unusedVariables false
set_option linter.unusedSimpArgs false
namespace Go.Proofs.YtpodllefipleiaaGreatDoor
set_option maxHeartbeats 16000000
set_option maxRecDepth 100000
open Go.RowKit
def ReqsD (b k m:Nat) (w:World) (e:Ending) (w':World):Prop:=∃ (a:Option Addr) (n c:Nat),n≤25∧e=.returned (.slice a n c)∧RowZ w.heap.size w' a n c∧SrcQ b k m w w'
theorem firstIdx_mem {α:Type} {p:α→Bool} {l:List α} {x:α} (hx:x ∈ l) (hp:p x=true):∃ i:Nat,i<l.length∧za4 p l=i:=by
 have hex:∃ x ∈ l,p x=true:=⟨x,hx,hp⟩
 refine⟨l.findIdx p,List.findIdx_lt_length_of_exists hex,zce p l _ (List.findIdx_lt_length_of_exists hex) List.findIdx_getElem ?_⟩;rw[List.any_eq_false];intro y hy;obtain⟨i,hi,rfl⟩:=List.getElem_of_mem hy;rw[List.length_take] at hi;rw[List.getElem_take];have:=List.not_of_lt_findIdx (show i<l.findIdx p by omega)
 simpa using this
structure RqS (b k c:Nat) (w0 w:World) (a:Option Addr) (n cp:Nat):Prop where
 src:∃ k',k≤k'∧k'≤k+c∧Src w b k'
 chg:Chg [b] w0 w
 row:RowZ w0.heap.size w a n cp
 bl:b<w0.heap.size
section
variable {b k c n cp:Nat} {w0 w w':World} {a:Option Addr}
theorem RqS.below (h:RqS b k c w0 w a n cp) (hb:Below w.heap.size w w'):RqS b k c w0 w' a n cp:=by
 obtain⟨k',h1,h2,S⟩:=h.src;exact⟨⟨k',h1,h2,S.below S.lt hb⟩,h.chg.trans (Chg.of_below hb),h.row.below hb,h.bl⟩
theorem RqS.call {k1 d:Nat} (h:RqS b k c w0 w a n cp) (h1:k≤k1) (h2:k1≤k+c) (q:SrcQ b k1 d w w'):RqS b k (c+d) w0 w' a n cp:=by
 obtain⟨k2,g1,g2,S,C⟩:=q;exact⟨⟨k2,by omega,by omega,S⟩,h.chg.trans C,h.row.chg h.bl C,h.bl⟩
theorem RqS.more {d:Nat} (h:RqS b k c w0 w a n cp) (hd:c≤d):RqS b k d w0 w a n cp:=by
 obtain⟨k',h1,h2,S⟩:=h.src;exact⟨⟨k',h1,by omega,S⟩,h.chg,h.row,h.bl⟩
theorem RqS.put {a2:Option Addr} {n2 c2:Nat} (h:RqS b k c w0 w a n cp) (r:RowZ w0.heap.size w a2 n2 c2):RqS b k c w0 w a2 n2 c2:=⟨h.src,h.chg,r,h.bl⟩
theorem RqS.setO {f j:Nat} (h:RqS b k c w0 w a n cp) (hl:w0.heap.size≤f) (hr:0<n→∀ b' off,a=some ⟨b',off,none⟩→b'≠f) (v:Value):RqS b k c w0 (w.setCell ⟨f,j,none⟩ v) a n cp:=by
 obtain⟨k',h1,h2,S⟩:=h.src;have:=h.bl;refine⟨⟨k',h1,h2,S.setO (p:=⟨f,j,none⟩) (by show b<f;omega) v⟩,h.chg.setN (p:=⟨f,j,none⟩) hl v,?_,h.bl⟩;obtain⟨r1,r2,r3⟩:=h.row;refine⟨r1,r2,fun hn=>?_⟩;obtain⟨b',off,e,g1,g2,g3⟩:=r3 hn;exact⟨b',off,e,g1,by simpa using g2,g3.frame (Below.heap_setCell _ ⟨f,j,none⟩ _ _ (hr hn b' off e))⟩
theorem RqS.setR {b' off j:Nat} (h:RqS b k c w0 w (some ⟨b',off,none⟩) n cp) (hj:j<n*8) (v:Value) (hv:colOk (j % 8) v):RqS b k c w0 (w.setCell ⟨b',off+j,none⟩ v) (some ⟨b',off,none⟩) n cp:=by
 obtain⟨k',h1,h2,S⟩:=h.src;obtain⟨r1,r2,r3⟩:=h.row;obtain⟨b2,o2,e,g1,g2,g3⟩:=r3 (by omega);injection e with e;injection e with e1 e2;subst e1 e2;have:=h.bl;exact⟨⟨k',h1,h2,S.setO (p:=⟨b',off+j,none⟩) (by show b<b';omega) v⟩,h.chg.setN (p:=⟨b',off+j,none⟩) g1 v,⟨r1,r2,fun _=>⟨b',off,rfl,g1,by simpa using g2,g3.set j hj v hv⟩⟩,h.bl⟩
end
theorem l27Draw_any (b k:Nat) (w:World) (h:Src w b k) (hk:k≤1099511600000):Calls Tryz.prog 42 #[.pointer (some ⟨b,0,none⟩)] w (ReqsD b k 1000 w):=by
 obtain⟨i0,hi0,hz0,hz1,hz2⟩:=info_partsS infoReqD;have yb:=h.lt;have D0:Hid (RqS b k 0 w (w.alloc (.cells #[] 45)) (some ⟨w.heap.size,0,none⟩) 0 0):=⟨⟨k,Nat.le_refl _,Nat.le_refl _,h.below h.lt (zaj _ _)⟩,Chg.of_below (zaj _ _),⟨Nat.le_refl _,Nat.zero_le _,fun h=>by omega⟩,h.lt⟩
 clear h;go_enter Tryz.func42,Tryz.ntmps42;go_wp2_with (fail)
 go_at_call 62
 obtain⟨kk,ka,kb,SS⟩:=D0.out.src;refine (zci b kk 6 _ SS (by omega) (by omega) (by omega)).mono ?_;rintro e w1 ⟨⟨u,u0,u1,rfl⟩,hq⟩;have D1:Hid (RqS b k 2 w w1 (some ⟨w.heap.size,0,none⟩) 0 0):=D0.out.call ka kb hq;clear D0 SS hq ka kb;obtain⟨n0,rfl⟩:=Int.eq_ofNat_of_zero_le u0;go_wp2;go_loopw [3,4] (fun v i wr=>∃ (m n cp:Nat) (a:Option Addr),i=.int .i64 m∧m≤n0∧n+m≤5∧v=.slice a n cp∧RqS b k (2+(n0-m)*20) w wr a n cp) (fun _ i wr=>(intOf i).toNat)
 case atStart=>exact⟨n0,0,0,_,rfl,Nat.le_refl _,by omega,rfl,by simpa using D1.out⟩
 case round =>
  obtain⟨m,n,cp,a,rfl,hm,hnm,rfl,hd⟩:=hrel;have D2:=Lib.hid hd;clear hd D1
  by_cases hpos:0<m
  ·have mi:(0:Int)<(m:Int):=by omega
   go_wp2_with (fail)
   go_at_call 43
   obtain⟨kk,ka,kb,SS⟩:=D2.out.src;refine (l27DrawOne_any b kk _ SS (by omega)).mono ?_;rintro e w3 ⟨x,hx,rfl,hq⟩;have D3:Hid (RqS b k (2+(n0-m)*20+20) w w3 a n cp):=D2.out.call ka kb hq;have HX:=Lib.hid hx;clear SS hq ka kb D2 hx;go_upto_region 6 with (fail);obtain⟨W4,hW4,b4,z4,k4⟩:=zas w3 #[.string x.id,.string x.applicant,.string x.partner,.int .i64 x.low,.int .i64 x.high,.int .i64 x.filed,.int .i64 x.deadline,.int .i64 x.state] 45;rw[hW4];clear hW4;have D4:Hid (RqS b k (2+(n0-m)*20+20) w W4 a n cp):=D3.out.below b4;have HK4:=Lib.hid k4;have z5:=D3.out.chg.size;have hne:∀ b' off,a=some ⟨b',off,none⟩→0<n→b' < w3.heap.size:=fun b' off e hn=>by
    obtain⟨b2,o2,e2,_,g2,_⟩:=D3.out.row.2.2 hn;rw[e] at e2;injection e2 with e2;injection e2 with e3;omega
   clear b4 k4;have u7:=bkC HK4.out 7 rfl;have f7:=bkF HK4.out 7;go_upto_region 8 with (fail);have D5:Hid (RqS b k (2+(n0-m)*20+20) w (W4.setCell ⟨w3.heap.size,7,none⟩ (.int .i64 1)) a n cp):=D4.out.setO z5 (fun hn b' off e=>by have:=hne b' off e hn;omega) _;have HK5:Hid ((W4.setCell ⟨w3.heap.size,7,none⟩ (.int .i64 1)).heap[w3.heap.size]? = some (.cells #[.string x.id,.string x.applicant,.string x.partner,.int .i64 x.low,.int .i64 x.high,.int .i64 x.filed,.int .i64 x.deadline,.int .i64 1] 45 (0,0))):=bkS HK4.out 7 (.int .i64 1);have z6:(W4.setCell ⟨w3.heap.size,7,none⟩ (.int .i64 1)).heap.size=W4.heap.size:=zby _ _ _;generalize W4.setCell ⟨w3.heap.size,7,none⟩ (.int .i64 1)=W5 at *;clear D4 HK4 u7 f7 hne D3;obtain⟨l,fp,hl,hsm,ho,hi⟩:=D5.out.row.own;subst hl;have t0:=bkC HK5.out 0 rfl;have t1:=bkC HK5.out 1 rfl;have t2:=bkC HK5.out 2 rfl;have t3:=bkC HK5.out 3 rfl;have t4:=bkC HK5.out 4 rfl;have t5:=bkC HK5.out 5 rfl;have t6:=bkC HK5.out 6 rfl;have t7:=bkC HK5.out 7 rfl;have hx1:SmR ⟨x.id,x.applicant,x.partner,x.low,x.high,x.filed,x.deadline,1⟩:=⟨HX.out.id,HX.out.applicant,HX.out.partner,HX.out.low,HX.out.high,HX.out.filed,HX.out.deadline,⟨by show -1000000000≤(1:Int);omega,by show (1:Int)≤1000000000;omega⟩⟩
   have CF:=Lib.hid (sFileRequest_any l ⟨x.id,x.applicant,x.partner,x.low,x.high,x.filed,x.deadline,1⟩ hx1 _ W5 ((ho.rd hi).mono (Nat.le_refl _)) hsm (by omega));clear ho hi hsm hx1;go_wp2_with (fail)
   go_at_call 80
   refine CF.out.mono ?_;rintro e w6 ⟨b6,⟨cd,hcd,rfl⟩|⟨r,a2,c2,fp2,rfl,hrl,hrs,hxr,ho2,hi2⟩⟩
   ·have D6:Hid (RqS b k (2+(n0-m)*20+20) w w6 a l.length cp):=D5.out.below b6
    have hq:(cd == 0)=false:=by rw[beq_eq_false_iff_ne];exact hcd
    clear CF D5 b6 hcd t0 t1 t2 t3 t4 t5 t6 t7;go_wp2;go_roundw
    case rel=>exact⟨m-1,l.length,cp,a,by congr 1;omega,by omega,by omega,rfl,D6.out.more (by omega)⟩
    case measure=>simp[intOf];omega
   ·have D6:Hid (RqS b k (2+(n0-m)*20+20) w w6 a2 r.length c2):=(D5.out.below b6).put (RowZ.of_own ho2 (hi2.mono (by have:=D5.out.chg.size;omega) (Nat.le_refl _)) hrs)
    have hp:0<r.length:=List.length_pos_of_mem hxr;obtain⟨i,hi,hix⟩:=firstIdx_mem (p:=fun y:DRequest=>eqS y.id x.id) hxr (zcm.2 rfl);have CN:=Lib.hid (l27Find_any r x.id _ w6.heap.size w6 (ho2.rd hi2) (Nat.le_refl _) (by omega));rw[hix] at CN;obtain⟨r1,r2,r3⟩:=D6.out.row;obtain⟨b2,o2,rfl,g1,g2,g3⟩:=r3 hp;have k6:=bkB HK5.out b6 (by omega);clear t0 t1 t2 t3 t4 t5 t6 t7 ho2 hi2 hrs hxr b6 CF D5 HK5 hix;have t0:=bkC k6 0 rfl;obtain⟨uu,_,s7⟩:=g3.at_ (i*8+7) (by omega);have f7:=g3.open_ (o2+(i*8+7));rw[← Nat.add_assoc] at s7 f7;have hii:(i:Int)<(r.length:Int):=by omega
    have hrc:(r.length:Int)≤(c2:Int):=by omega
    go_wp2_with (fail)
    go_at_call 81
    refine CN.out.mono ?_;rintro e w7 ⟨rfl,rfl⟩;have D7:Hid (RqS b k (2+(n0-m)*20+20) w (w6.setCell ⟨b2,o2+(i*8+7),none⟩ (.int .i64 x.state)) (some ⟨b2,o2,none⟩) r.length c2):=D6.out.setR (by omega) _ (by rw[show (i*8+7) % 8=7 by omega];exact⟨_,rfl,HX.out.state⟩);rw[← Nat.add_assoc] at D7;clear g3 k6 CN D6 r1 r2 r3;go_wp2;go_roundw
    case rel=>exact⟨m-1,r.length,c2,_,by congr 1;omega,by omega,by omega,rfl,D7.out.more (by omega)⟩
    case measure=>simp[intOf];omega
  ·obtain rfl:m=0:=by omega
   have D3:Hid (RqS b k 150 w wr a n cp):=D2.out.more (by omega);have hn5:n≤5:=by omega
   have hni:(n:Int)≤5:=by omega
   clear D2 hm hnm hpos;go_upto_region 12 with (fail);go_cut [48] (fun s48 wx=>∃ q:Bool,s48=.bool q∧(q=true→0<n)∧RqS b k 152 w wx a n cp)
   case first =>
    by_cases hn:0<n
    ·have hi:(0:Int)<(n:Int):=by omega
     go_wp2_with (fail)
     go_at_call 44
     obtain⟨kk,ka,kb,SS⟩:=D3.out.src;refine (one_any b kk 9 _ SS (by omega) ⟨by omega,by omega⟩).mono ?_;rintro e w4 ⟨⟨q,rfl⟩,hq⟩;have D4:Hid (RqS b k 152 w w4 a n cp):=D3.out.call ka kb hq;clear SS hq ka kb D3;go_wp2;go_meet;exact⟨q,rfl,fun _=>hn,D4.out⟩
    ·have hi:¬ (0:Int)<(n:Int):=by omega
     go_wp2;go_meet;exact⟨false,rfl,fun h=>(by cases h),D3.out.more (by omega)⟩
   case rest =>
    obtain⟨q,rfl,hqn,hd⟩:=hcut;have D4:=Lib.hid hd;clear hd D3;generalize wc=w4 at *;go_upto_if 48 with (fail);go_cut [] (fun wx=>RqS b k 160 w wx a n cp)
    case first =>
     cases q with
     | false =>
      go_wp2;go_meet;exact D4.out.more (by omega)
     | true =>
      have hn:=hqn rfl;clear hqn;have hi:(1:Int)≤(n:Int):=by omega
      go_wp2_with (fail)
      go_at_call 62
      obtain⟨kk,ka,kb,SS⟩:=D4.out.src;refine (zci b kk n _ SS (by omega) (by omega) (by omega)).mono ?_;rintro e w5 ⟨⟨u,u0,u1,rfl⟩,hq⟩;have D5:Hid (RqS b k 154 w w5 a n cp):=D4.out.call ka kb hq;clear SS hq ka kb D4;obtain⟨i,rfl⟩:=Int.eq_ofNat_of_zero_le u0;have hin:i<n:=by omega
      obtain⟨r1,r2,r3⟩:=D5.out.row;obtain⟨b2,o2,rfl,g1,g2,g3⟩:=r3 hn;obtain⟨x,hx,hc⟩:=g3.get i hin;have t0:=hc 0 _ rfl;have t1:=hc 1 _ rfl;have t2:=hc 2 _ rfl;have t3:=hc 3 _ rfl;have t4:=hc 4 _ rfl;have t5:=hc 5 _ rfl;have t6:=hc 6 _ rfl;have t7:=hc 7 _ rfl;rw[Nat.add_zero] at t0;rw[← Nat.add_assoc] at t1 t2 t3 t4 t5 t6 t7;have hnc:(n:Int)≤(cp:Int):=by omega
      clear hc g3 r1 r2 r3;go_wp2_with (fail)
      go_at_call 45
      obtain⟨kk,ka,kb,SS⟩:=D5.out.src;refine (l27Bend_any b kk x hx _ SS (by omega)).mono ?_;rintro e w6 ⟨y,hy,rfl,hq⟩;have D6:Hid (RqS b k 158 w w6 (some ⟨b2,o2,none⟩) n cp):=D5.out.call ka kb hq;have HY:=Lib.hid hy;clear SS hq ka kb D5 t0 t1 t2 t3 t4 t5 t6 t7 hx hy;obtain⟨r1,r2,r3⟩:=D6.out.row;obtain⟨b3,o3,e3,g3,g4,g5⟩:=r3 hn;injection e3 with e3;injection e3 with e4 e5;subst e4 e5;have f0:=fun j=>g5.open_ (o2+i*8+j)
      have f00:=f0 0;rw[Nat.add_zero] at f00;have f1:=f0 1;have f2:=f0 2;have f3:=f0 3;have f4:=f0 4;have f5:=f0 5;have f6:=f0 6;have f7:=f0 7;obtain⟨v0,_,t0⟩:=g5.at_ (i*8) (by omega);obtain⟨v1,_,t1⟩:=g5.at_ (i*8+1) (by omega);obtain⟨v2,_,t2⟩:=g5.at_ (i*8+2) (by omega);obtain⟨v3,_,t3⟩:=g5.at_ (i*8+3) (by omega);obtain⟨v4,_,t4⟩:=g5.at_ (i*8+4) (by omega);obtain⟨v5,_,t5⟩:=g5.at_ (i*8+5) (by omega);obtain⟨v6,_,t6⟩:=g5.at_ (i*8+6) (by omega);obtain⟨v7,_,t7⟩:=g5.at_ (i*8+7) (by omega);rw[← Nat.add_assoc] at t1 t2 t3 t4 t5 t6 t7;clear r1 r2 r3 f0;go_wp2;go_meet;have Q0:=D6.out.setR (j:=i*8) (by omega) (.string y.id) (by rw[show i*8 % 8=0 by omega];exact HY.out.col 0 rfl);have Q1:=Q0.setR (j:=i*8+1) (by omega) (.string y.applicant) (by rw[show (i*8+1) % 8=1 by omega];exact HY.out.col 1 rfl);have Q2:=Q1.setR (j:=i*8+2) (by omega) (.string y.partner) (by rw[show (i*8+2) % 8=2 by omega];exact HY.out.col 2 rfl);have Q3:=Q2.setR (j:=i*8+3) (by omega) (.int .i64 y.low) (by rw[show (i*8+3) % 8=3 by omega];exact HY.out.col 3 rfl);have Q4:=Q3.setR (j:=i*8+4) (by omega) (.int .i64 y.high) (by rw[show (i*8+4) % 8=4 by omega];exact HY.out.col 4 rfl);have Q5:=Q4.setR (j:=i*8+5) (by omega) (.int .i64 y.filed) (by rw[show (i*8+5) % 8=5 by omega];exact HY.out.col 5 rfl);have Q6:=Q5.setR (j:=i*8+6) (by omega) (.int .i64 y.deadline) (by rw[show (i*8+6) % 8=6 by omega];exact HY.out.col 6 rfl);have Q7:=Q6.setR (j:=i*8+7) (by omega) (.int .i64 y.state) (by rw[show (i*8+7) % 8=7 by omega];exact HY.out.col 7 rfl);exact Q7.more (by omega)
    case rest =>
     have D5:=Lib.hid hcut;clear hcut D4 hqn;generalize wc=w5 at *;go_wp2_with (fail)
     go_at_call 44
     obtain⟨kk,ka,kb,SS⟩:=D5.out.src;refine (one_any b kk 20 _ SS (by omega) ⟨by omega,by omega⟩).mono ?_;rintro e w6 ⟨⟨p,rfl⟩,hq⟩;have D6:Hid (RqS b k 162 w w6 a n cp):=D5.out.call ka kb hq;clear SS hq ka kb D5
     cases p with
     | false =>
      go_wp2;go_ret;obtain⟨kk,ka,kb,SS⟩:=D6.out.src;exact⟨a,n,cp,by omega,rfl,D6.out.row,kk,ka,by omega,SS,D6.out.chg⟩
     | true =>
      go_wp2_with (fail)
      go_at_call 63
      have BA:Below w6.heap.size w6 (w6.alloc (.cells #[.int .i64 24,.int .i64 25] 2)):=zaj _ _;have DA:=D6.out.below BA;obtain⟨kk,ka,kb,SS⟩:=DA.src;refine (zcr b kk [24,25] w6.heap.size 2 _ SS (by omega) (by have:=D6.out.bl;have:=D6.out.chg.size;omega) (by simp) (by simp) (LayI.new w6 _ [24,25] 2 rfl)).mono ?_;rintro e w7 ⟨⟨v,hv,rfl⟩,hq⟩;have D7:Hid (RqS b k 164 w w7 a n cp):=DA.call ka kb hq;obtain⟨N,rfl,hN⟩:∃ N:Nat,v=(N:Int)∧N≤25:=by
       simp only[List.mem_cons,List.not_mem_nil,or_false] at hv
       rcases hv with rfl|rfl
       ·exact⟨24,rfl,by omega⟩
       ·exact⟨25,rfl,by omega⟩
      clear D6 DA SS hq ka kb BA hv;have GE:=Lib.hid (grow_emptyR w7 45);obtain⟨base,hbase⟩:∃ base,base=w7.heap.size:=⟨_,rfl⟩
      have zb:w.heap.size≤base:=by have:=D7.out.chg.size;omega
      go_wp2;go_loopw [3,11] (fun v i wr=>∃ (m:Nat) (vs:List DRequest),m≤N∧i=.int .i64 m∧vs.length=m∧(∀ y ∈ vs,SmR y)∧Below w7.heap.size w7 wr∧w7.heap.size+1≤wr.heap.size∧Grow wr base 45 8 v vs.length (vs.flatMap DRequest.tr) []) (fun _ i wr=>N-(intOf i).toNat)
      case atStart=>exact⟨0,[],Nat.zero_le _,rfl,rfl,fun y hy=>by simp at hy,zaj _ _,by simp,hbase ▸ GE.out⟩
      case round =>
       obtain⟨m,vs,hm,rfl,hvl,hsm,hb,hzr,hgr⟩:=hrel;have HB:=Lib.hid hb;have HG:=Lib.hid hgr;have HSM:=Lib.hid hsm;have HVL:=Lib.hid hvl;have hvn:vs.length≤25:=by omega
       clear hb hgr hsm hvl GE
       by_cases hlt:m<N
       ·have hmi:(m:Int)<(N:Int):=by omega
        have hcv:=run_convert_bytes_back (P:=Tryz.prog) (wr.alloc (.cells #[.int .u8 (97+(m:Int))] 5)) 22 9 5 ⟨wr.heap.size,0,none⟩ 1 [UInt8.ofNat (97+m)] Tryz.underlying22 Tryz.underlying5 Tryz.underlying9 (fun j hj=>by
         simp at hj;subst hj;have e:((97+m) % 256:Nat)=97+m:=by omega
         simp[go_sem,e])
        simp only[List.length_singleton] at hcv;generalize hch:UInt8.ofNat (97+m)=ch at *;clear hch;have c1:(⟨#[113]⟩:ByteArray).size=1:=rfl;have c2:(⟨#[ch]⟩:ByteArray).size=1:=rfl;have a1:=fun W:World=>run_string_add_sum (P:=Tryz.prog) (w:=W) ⟨#[113]⟩ ⟨#[ch]⟩ (by rw[c1,c2];decide)
        have hsz:((⟨#[113]⟩:ByteArray)++⟨#[ch]⟩).size≤16:=by rw[ByteArray.size_append,c1,c2];omega
        generalize hsq:(⟨#[113]⟩:ByteArray)++⟨#[ch]⟩=sq at *;have HSQ:=Lib.hid hsq;clear hsq c1 c2;have b0:=zaj wr (.cells #[.int .u8 (97+(m:Int))] 5);have HB0:=Lib.hid (HB.out.trans (b0.mono (by omega)));have HG0:=Lib.hid (HG.out.below (lo:=0) In.nil b0);have z0:(wr.alloc (.cells #[.int .u8 (97+(m:Int))] 5)).heap.size=wr.heap.size+1:=by simp
        clear b0;go_upto_region 22 with (fail);generalize (wr.alloc (.cells #[.int .u8 (97+(m:Int))] 5))=W8 at *;obtain⟨W9,hW9,b9,z9,k9⟩:=zas W8 #[.string sq,.string ⟨#[111,110,101]⟩,.string ⟨#[116,119,111]⟩,.int .i64 1,.int .i64 2,.int .i64 0,.int .i64 m,.int .i64 1] 45;rw[hW9];clear hW9;have HB9:=Lib.hid (HB0.out.trans (b9.mono (by omega)));have HG9:=Lib.hid (HG0.out.below (lo:=0) In.nil b9);rw[z0] at k9;have t0:=bkC k9 0 rfl;have t1:=bkC k9 1 rfl;have t2:=bkC k9 2 rfl;have t3:=bkC k9 3 rfl;have t4:=bkC k9 4 rfl;have t5:=bkC k9 5 rfl;have t6:=bkC k9 6 rfl;have t7:=bkC k9 7 rfl;have HSR:Hid (SmR ⟨sq,⟨#[111,110,101]⟩,⟨#[116,119,111]⟩,1,2,0,m,1⟩):=⟨hsz,(by show (⟨#[111,110,101]⟩:ByteArray).size≤16;decide),(by show (⟨#[116,119,111]⟩:ByteArray).size≤16;decide),⟨by show -1000000000≤(1:Int);omega,by show (1:Int)≤1000000000;omega⟩,⟨by show -1000000000≤(2:Int);omega,by show (2:Int)≤1000000000;omega⟩,⟨by show (0:Int)≤0;omega,by show (0:Int)≤1000000000;omega⟩,⟨by show -1000000000≤(m:Int);omega,by show (m:Int)≤1000000000;omega⟩,⟨by show -1000000000≤(1:Int);omega,by show (1:Int)≤1000000000;omega⟩⟩
        clear hcv a1 hsz b9 k9 HB0 HG0 HB HG;go_wp2_with (at_builtin;refine zat rfl (.tmp 81) (.tmp 83) _ rfl base 45 i0 _ 8 88 Tryz.underlying43 hi0 hz0 hz1 hz2 rfl (by omega) _ _ _ [] rfl HG9.out [.string sq,.string ⟨#[111,110,101]⟩,.string ⟨#[116,119,111]⟩,.int .i64 1,.int .i64 2,.int .i64 0,.int .i64 m,.int .i64 1] (DRequest.tr ⟨sq,⟨#[111,110,101]⟩,⟨#[116,119,111]⟩,1,2,0,m,1⟩) [] rfl 1 rfl (fun x hx=>by simp at hx;rcases hx with rfl|rfl|rfl|rfl|rfl|rfl|rfl|rfl<;>rfl) (zb0 _ [.string sq,.string ⟨#[111,110,101]⟩,.string ⟨#[116,119,111]⟩,.int .i64 1,.int .i64 2,.int .i64 0,.int .i64 m,.int .i64 1]) List.nodup_nil (fun b h=>by simp at h) 0 In.nil In.nil (by simp) (by simp) (by unfold maxLen;omega) (by omega) (by omega) ?_;intro v2 wn hgn);have HGN:=Lib.hid hgn;have zn:=hgn.size;clear hgn t0 t1 t2 t3 t4 t5 t6 t7;go_wp2;go_roundw
        case rel =>
         refine⟨m+1,vs++[⟨sq,⟨#[111,110,101]⟩,⟨#[116,119,111]⟩,1,2,0,m,1⟩],by omega,by go_num,by rw[List.length_append,HVL.out];rfl,fun y hy=>?_,HB9.out.trans (HGN.out.below.mono (by omega)),by omega,?_⟩
         ·rcases List.mem_append.1 hy with hy|hy
          ·exact HSM.out y hy
          ·obtain rfl:y=⟨sq,⟨#[111,110,101]⟩,⟨#[116,119,111]⟩,1,2,0,m,1⟩:=by simpa using hy
           exact HSR.out
         ·rw[List.length_append,List.flatMap_append]
          simpa using HGN.out.grow
        case measure=>simp[intOf];omega
       ·obtain rfl:m=N:=by omega
        obtain⟨av,cv,fv,ev,ov,iv⟩:=HG.out.toOwn (lo:=base) (by omega) In.nil (by omega);subst ev;have DZ:=(D7.out.below HB.out).put (RowZ.of_own ov (iv.mono zb (Nat.le_refl _)) HSM.out);have DD:=Lib.hid DZ;clear ov iv HG DZ;go_wp2;go_ret;obtain⟨kk,ka,kb,SS⟩:=DD.out.src;exact⟨av,vs.length,cv,hvn,rfl,DD.out.row,kk,ka,by omega,SS,DD.out.chg⟩
end Go.Proofs.YtpodllefipleiaaGreatDoor
