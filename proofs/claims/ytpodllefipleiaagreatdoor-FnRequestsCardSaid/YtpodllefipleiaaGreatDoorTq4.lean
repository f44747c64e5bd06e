/- Contract: DrawFileRequest of the reference: some small requests of bounded number and some small request. No condition. -/
import Derived.Test.YtpodllefipleiaaGreatDoorTq3
set_option linter.unusedVariables false
set_option linter.unusedSimpArgs false
namespace Go.Proofs.YtpodllefipleiaaGreatDoor
open Go.RowKit
set_option maxHeartbeats 8000000
set_option maxRecDepth 100000
theorem RowZ.setB {lo f j n c:Nat} {w:World} {a:Option Addr} (h:RowZ lo w a n c) (hf:f<lo) (v:Value):RowZ lo (w.setCell ⟨f,j,none⟩ v) a n c:=by
 obtain⟨h1,h2,h3⟩:=h;refine⟨h1,h2,fun hn=>?_⟩;obtain⟨b',off,e,g1,g2,g3⟩:=h3 hn;exact⟨b',off,e,g1,by simpa using g2,g3.frame (Below.heap_setCell _ ⟨f,j,none⟩ _ _ (by show b'≠f;omega))⟩
def DrawFR (w:World) (e:Ending) (w':World):Prop:=∃ (l:List DRequest) (x:DRequest) (a:Option Addr) (c:Nat) (fp:List Nat),l.length≤25∧(∀ y ∈ l,SmR y)∧SmR x∧e=.returned (.tuple #[.slice a l.length c,.agg #[.string x.id,.string x.applicant,.string x.partner,.int .i64 x.low,.int .i64 x.high,.int .i64 x.filed,.int .i64 x.deadline,.int .i64 x.state]])∧Own w' (DRequest.sT l) (.slice a l.length c) fp∧In w.heap.size w'.heap.size fp∧Below w.heap.size w w'
theorem DrawFileRequest_any (l:List UInt8) (v:Value) (w:World) (h:Rd w.heap.size w (bsT l) v):Calls Tryz.prog 14 #[v] w (DrawFR w):=by
 have H0:=Lib.hid h;clear h;go_enter Tryz.func14,Tryz.ntmps14;go_upto_region 1 with (fail);obtain⟨W0,hW0,b0,z0,k0⟩:=zas w #[.string ⟨#[]⟩,.string ⟨#[]⟩,.string ⟨#[]⟩,.int .i64 0,.int .i64 0,.int .i64 0,.int .i64 0,.int .i64 0] 45;rw[hW0];clear hW0;have HK:=Lib.hid k0;have HF:=Lib.hid (l00From_any l v W0 ((H0.out.below b0).mono (by omega)));have HB0:=Lib.hid b0;clear b0 k0 H0;go_wp2_with (fail)
 go_at_call 22
 refine HF.out.mono ?_;rintro e w1 ⟨rfl,S1,b1,z1⟩;have HK1:=Lib.hid (bkB HK.out b1 (by omega));have HB1:=Lib.hid (HB0.out.trans (b1.mono (by omega)));have CD:=Lib.hid (l27Draw_any _ _ w1 S1 (by omega));have yb:=S1.lt;clear S1 b1 HF HK HB0;go_wp2_with (fail)
 go_at_call 42
 refine CD.out.mono ?_;rintro e w2 ⟨a,n,c,hn,rfl,hr,k2,_,g2,S2,C2⟩;have D2:Hid (RqS W0.heap.size 0 1000 w1 w2 a n c):=⟨⟨k2,by omega,by omega,S2⟩,C2,hr,yb⟩
 have HK2:=Lib.hid ((C2.block _ (by omega) (by simp<;>omega)).trans HK1.out);clear hr S2 C2 CD HK1;go_wp2_with (fail)
 go_at_call 43
 obtain⟨kk,ka,kb,SS⟩:=D2.out.src;refine (l27DrawOne_any _ kk _ SS (by omega)).mono ?_;rintro e w3 ⟨x,hx,rfl,hq⟩;have D3:Hid (RqS W0.heap.size 0 1020 w1 w3 a n c):=D2.out.call ka kb hq;have HX:=Lib.hid hx;have z2:=D2.out.chg.size;obtain⟨_,_,_,_,cq⟩:=hq;have HK3:=Lib.hid ((cq.block _ (by omega) (by simp<;>omega)).trans HK2.out);clear SS cq ka kb D2 hx HK2;go_upto_region 4 with (fail);obtain⟨W4,hW4,b4,z4,k4⟩:=zas w3 #[.string x.id,.string x.applicant,.string x.partner,.int .i64 x.low,.int .i64 x.high,.int .i64 x.filed,.int .i64 x.deadline,.int .i64 x.state] 45;rw[hW4];clear hW4;have z3:=D3.out.chg.size;have D4:Hid (RqS W0.heap.size 0 1020 w1 W4 a n c):=D3.out.below b4;have HR4:=Lib.hid (bkB HK3.out b4 (by omega));have HX4:=Lib.hid k4;have HNE:Hid (∀ b' off,a=some ⟨b',off,none⟩→0<n→b' < w3.heap.size):=fun b' off e hn=>by
  obtain⟨b2,o2,e2,_,g2,_⟩:=D3.out.row.2.2 hn;rw[e] at e2;injection e2 with e2;injection e2 with e3;omega
 clear b4 k4 D3 HK3;go_wp2_with (fail)
 go_at_call 44
 obtain⟨kk,ka,kb,SS⟩:=D4.out.src;refine (one_any _ kk 5 _ SS (by omega) ⟨by omega,by omega⟩).mono ?_;rintro e w5 ⟨⟨q,rfl⟩,hq⟩;have D5:Hid (RqS W0.heap.size 0 1022 w1 w5 a n c):=D4.out.call ka kb hq;obtain⟨_,_,_,_,cq⟩:=hq;have HR5:=Lib.hid ((cq.block _ (by omega) (by simp<;>omega)).trans HR4.out);have HX5:=Lib.hid ((cq.block _ (by omega) (by simp<;>omega)).trans HX4.out);have z5:=D5.out.chg.size;have zc:=cq.size;clear SS cq ka kb D4 HR4 HX4;go_upto_if 15 with (fail);go_cut [] (fun wx=>RqS W0.heap.size 0 1022 w1 wx a n c∧wx.heap.size=w5.heap.size∧wx.heap[w.heap.size]? = some (.cells #[.string ⟨#[]⟩,.string ⟨#[]⟩,.string ⟨#[]⟩,.int .i64 0,.int .i64 0,.int .i64 0,.int .i64 0,.int .i64 0] 45 (0,0))∧∃ st:Int,SmN st∧wx.heap[w3.heap.size]? = some (.cells #[.string x.id,.string x.applicant,.string x.partner,.int .i64 x.low,.int .i64 x.high,.int .i64 x.filed,.int .i64 x.deadline,.int .i64 st] 45 (0,0)))
 case first =>
  cases q with
  | true =>
   go_wp2;go_meet;exact⟨D5.out,rfl,HR5.out,x.state,HX.out.state,HX5.out⟩
  | false =>
   have t7:=bkC HX5.out 7 rfl;have f7:=bkF HX5.out 7;go_wp2;go_meet;exact⟨D5.out.setO (by omega) (fun hn b' off e=>by have:=HNE.out b' off e hn;omega) _,zby _ _ _,bkO HR5.out (p:=⟨w3.heap.size,7,none⟩) (by show w.heap.size≠w3.heap.size;omega) _,1,⟨by omega,by omega⟩,bkS HX5.out 7 (.int .i64 1)⟩
 case rest =>
  obtain⟨hd,z6,hr,st,hst,hx6⟩:=hcut;have D6:=Lib.hid hd;have HR6:=Lib.hid hr;clear hd hr D5 HR5 HX5;generalize wc=w6 at *;have hy:SmR ⟨x.id,x.applicant,x.partner,x.low,x.high,x.filed,x.deadline,st⟩:=⟨HX.out.id,HX.out.applicant,HX.out.partner,HX.out.low,HX.out.high,HX.out.filed,HX.out.deadline,hst⟩
  have t0:=bkC hx6 0 rfl;have t1:=bkC hx6 1 rfl;have t2:=bkC hx6 2 rfl;have t3:=bkC hx6 3 rfl;have t4:=bkC hx6 4 rfl;have t5:=bkC hx6 5 rfl;have t6:=bkC hx6 6 rfl;have t7:=bkC hx6 7 rfl;clear hx6;go_wp2_with (fail)
  go_at_call 45
  obtain⟨kk,ka,kb,SS⟩:=D6.out.src;refine (l27Bend_any _ kk _ hy _ SS (by omega)).mono ?_;rintro e w7 ⟨y,hsy,rfl,hq⟩;have D7:Hid (RqS W0.heap.size 0 1026 w1 w7 a n c):=D6.out.call ka kb hq;have HY:=Lib.hid hsy;obtain⟨_,_,_,_,cq⟩:=hq;have hr7:=(cq.block _ (by omega) (by simp<;>omega)).trans HR6.out;clear SS cq ka kb D6 HR6 hsy hy t0 t1 t2 t3 t4 t5 t6 t7;have t0:=bkC hr7 0 rfl;have t1:=bkC hr7 1 rfl;have t2:=bkC hr7 2 rfl;have t3:=bkC hr7 3 rfl;have t4:=bkC hr7 4 rfl;have t5:=bkC hr7 5 rfl;have t6:=bkC hr7 6 rfl;have t7:=bkC hr7 7 rfl;have f0:=bkF hr7 0;have f1:=bkF hr7 1;have f2:=bkF hr7 2;have f3:=bkF hr7 3;have f4:=bkF hr7 4;have f5:=bkF hr7 5;have f6:=bkF hr7 6;have f7:=bkF hr7 7;clear hr7;have HBZ:Hid (Below w.heap.size w w7):=HB1.out.trans (D7.out.chg.below (by omega) (fun x hx=>by simp at hx;omega));go_wp2;have Z:=(((((((D7.out.row.setB (f:=w.heap.size) (j:=0) (by omega) (.string y.id)).setB (f:=w.heap.size) (j:=1) (by omega) (.string y.applicant)).setB (f:=w.heap.size) (j:=2) (by omega) (.string y.partner)).setB (f:=w.heap.size) (j:=3) (by omega) (.int .i64 y.low)).setB (f:=w.heap.size) (j:=4) (by omega) (.int .i64 y.high)).setB (f:=w.heap.size) (j:=5) (by omega) (.int .i64 y.filed)).setB (f:=w.heap.size) (j:=6) (by omega) (.int .i64 y.deadline)).setB (f:=w.heap.size) (j:=7) (by omega) (.int .i64 y.state);obtain⟨lz,fz,hlz,hsz,hoz,hiz⟩:=Z.own;subst hlz;exact bodyPost_ret (v:=.tuple #[.slice a lz.length c,.agg #[.string y.id,.string y.applicant,.string y.partner,.int .i64 y.low,.int .i64 y.high,.int .i64 y.filed,.int .i64 y.deadline,.int .i64 y.state]]) (by simp[results,Tryz.results14,go_sem, *]) rfl ⟨lz,y,a,c,fz,hn,hsz,HY.out,rfl,hoz,hiz.mono (by omega) (Nat.le_refl _),(((((((HBZ.out.setCell (Nat.le_refl _) _).setCell (Nat.le_refl _) _).setCell (Nat.le_refl _) _).setCell (Nat.le_refl _) _).setCell (Nat.le_refl _) _).setCell (Nat.le_refl _) _).setCell (Nat.le_refl _) _).setCell (Nat.le_refl _) _⟩
end Go.Proofs.YtpodllefipleiaaGreatDoor
