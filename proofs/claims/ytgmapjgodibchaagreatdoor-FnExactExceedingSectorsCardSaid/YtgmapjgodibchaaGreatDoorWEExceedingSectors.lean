/- The walk of the law FnExactExceedingSectors: it returns true. -/
import Derived.Test.YtgmapjgodibchaaGreatDoorLyE
set_option linter.unusedVariables false
set_option linter.unusedSimpArgs false
namespace Go.Proofs.YtgmapjgodibchaaGreatDoor.fnExactExceedingSectors
open Go.RowKit
set_option maxHeartbeats 16000000
set_option maxRecDepth 100000
theorem calls_cast {P:Program} {f:FuncId} {a:Value} {K K':Int} {w:World} {Q:Ending→World→Prop} (hK:K=K') (h:Calls P f #[a,.int .i64 K'] w Q):Calls P f #[a,.int .i64 K] w Q:=hK ▸ h
theorem net_few {n:DNetwork} (h:netB n=true):n.sectors.length≤24:=by
 unfold netB at h;simp only[Bool.and_eq_true,decide_eq_true_eq] at h;exact h.2.1
theorem DBand.cnt_le (l:List DBand):cnt (DBand.sT l)≤16*siz (DBand.sT l):=zdn DBand.tr 5 16 (by decide) DBand.tr_len (fun x=>by simp only[DBand.tr,cntL,cnt,strT,intT];omega) l
theorem levPl_net {t:DTerrain} {n:DNetwork} {bs:List DBand} {p:DProtected} (h:(za1 t n bs p).2=0):netB n=true:=by
 unfold za1 at h
 split at h
 ·rename_i h1;exact h1.2.1
 ·exact absurd h (by decide)
theorem sum_size_col (p:DSector→Bool) (l:List DSector):((col DSector.name p l).map ByteArray.size).sum≤sizL (l.flatMap DSector.tr):=by
 induction l with
 | nil=>simp[col]
 | cons x l ih =>
  rw[List.flatMap_cons,zev];have hx:x.name.size≤sizL x.tr:=by rw[DSector.siz_tr];omega
  unfold col at ih ⊢
  by_cases hp:p x=true
  ·rw[List.filter_cons_of_pos hp,List.map_cons,List.map_cons,List.sum_cons];omega
  ·rw[List.filter_cons_of_neg hp];omega
theorem exc_siz (t:DTerrain) (n:DNetwork) (bs:List DBand) (p:DProtected):siz (zd2 (excR t n bs p).1)≤sizL n.tr:=by
 have h:=DNetwork.siz_tr n;rw[DSector.siz_s] at h;have h1:=col_len DSector.name (fun x=>decide (p.limit<levX t n bs p x)) n.sectors;have h2:=sum_size_col (fun x=>decide (p.limit<levX t n bs p x)) n.sectors;rw[siz_strs];unfold excR
 split
 ·show (col DSector.name (fun x=>decide (p.limit<levX t n bs p x)) n.sectors).length+_≤_
  exact Nat.le_trans (Nat.add_le_add_left h2 _) (by omega)
 ·simp
theorem walk (t:DTerrain) (nw:DNetwork) (bs:List DBand) (p:DProtected) (vt3 vt4 vnw0 vnw1 vnw2 vnw3 vbs0:Value) (w:World) (LL:TabW w) (rt3:Rd w.heap.size w (zaj t.heights) vt3) (rt4:Rd w.heap.size w (zaj t.clutter) vt4) (rnw0:Rd w.heap.size w (DSite.sT nw.sites) vnw0) (rnw1:Rd w.heap.size w (DSector.sT nw.sectors) vnw1) (rnw2:Rd w.heap.size w (DAntenna.sT nw.antennas) vnw2) (rnw3:Rd w.heap.size w (DRadio.sT nw.radios) vnw3) (rbs0:Rd w.heap.size w (DBand.sT bs) vbs0) (hk_t:t.ok) (hk_nw:nw.ok) (hk_bs:∀ y ∈ bs,y.ok) (hk_p:p.ok) :
  Calls Tryz.prog 5 #[.agg #[.int .i64 t.step,.int .i64 t.width,.int .i64 t.height,vt3,vt4],.agg #[vnw0,vnw1,vnw2,vnw3],vbs0,.agg #[.string p.name,.int .i64 p.at_.place.x,.int .i64 p.at_.place.y,.int .i64 p.at_.above,.int .i64 p.low,.int .i64 p.high,.int .i64 p.limit]] w fun e w'=>e=.returned (.bool true)∧Below w.heap.size w w':=by
 have HLL:=Lib.hid LL;clear LL;have Ht3:=Lib.hid rt3;have Ht4:=Lib.hid rt4;have Hnw0:=Lib.hid rnw0;have Hnw1:=Lib.hid rnw1;have Hnw2:=Lib.hid rnw2;have Hnw3:=Lib.hid rnw3;have Hbs0:=Lib.hid rbs0;clear rt3 rt4 rnw0 rnw1 rnw2 rnw3 rbs0;obtain⟨avbs,cvbs,evbs,_,_,_⟩:=DBand.rd Hbs0.out;subst evbs;have hq_t:=DTerrain.siz_tr t;have hq_nw:=DNetwork.siz_tr nw;have hq_p:=DProtected.siz_tr p;have hRs:=exc_siz t nw bs p;have hRc:=cnt_strs (excR t nw bs p).1;have hRz:=siz_strs (excR t nw bs p).1;have hc0:=DSite.cnt_le nw.sites;have hc1:=DSector.cnt_le nw.sectors;have hc2:=DAntenna.cnt_le nw.antennas;have hc3:=DRadio.cnt_le nw.radios;have hc4:=DBand.cnt_le bs;have hc5:cnt (zaj t.heights)=siz (zaj t.heights):=by rw[zen,zbn]
 have hc6:cnt (zaj t.clutter)=siz (zaj t.clutter):=by rw[zen,zbn]
 have BB0:Hid (Below w.heap.size w w):=Below.refl _ _;generalize hR:excR t nw bs p=R at *;have HR:=Lib.hid hR;clear hR;have HS:Hid (∀ (W:World) (xt3 xt4 xnw0 xnw1 xnw2 xnw3 xbs0:Value),Rd W.heap.size W (zaj t.heights) xt3→Rd W.heap.size W (zaj t.clutter) xt4→Rd W.heap.size W (DSite.sT nw.sites) xnw0→Rd W.heap.size W (DSector.sT nw.sectors) xnw1→Rd W.heap.size W (DAntenna.sT nw.antennas) xnw2→Rd W.heap.size W (DRadio.sT nw.radios) xnw3→Rd W.heap.size W (DBand.sT bs) xbs0→sizL t.tr≤1048576→sizL nw.tr≤1048576→siz (DBand.sT bs)≤1048576→sizL p.tr≤1048576→Calls Tryz.prog 30 #[.agg #[.int .i64 t.step,.int .i64 t.width,.int .i64 t.height,xt3,xt4],.agg #[xnw0,xnw1,xnw2,xnw3],xbs0,.agg #[.string p.name,.int .i64 p.at_.place.x,.int .i64 p.at_.place.y,.int .i64 p.at_.above,.int .i64 p.low,.int .i64 p.high,.int .i64 p.limit]] W (fun e w'=>∃ a0_0 c0_0 fp0,e=.returned (.tuple #[.slice a0_0 R.1.length c0_0,.int .i64 R.2])∧Below W.heap.size W w'∧Own w' (zd2 R.1) (.slice a0_0 R.1.length c0_0) fp0∧In W.heap.size w'.heap.size fp0)):=fun W xt3 xt4 xnw0 xnw1 xnw2 xnw3 xbs0  yt3 yt4 ynw0 ynw1 ynw2 ynw3 ybs0 z0 z1 z2 z3=>by rw[← HR.out];exact sExceedingSectors_std t nw bs p xt3 xt4 xnw0 xnw1 xnw2 xnw3 xbs0 W  yt3 yt4 ynw0 ynw1 ynw2 ynw3 ybs0 z0 hk_t z1 hk_nw z2 hk_bs z3 hk_p
 have HI:Hid (∀ (W:World) (xt3 xt4 xnw0 xnw1 xnw2 xnw3 xbs0:Value),TabW W→Rd W.heap.size W (zaj t.heights) xt3→Rd W.heap.size W (zaj t.clutter) xt4→Rd W.heap.size W (DSite.sT nw.sites) xnw0→Rd W.heap.size W (DSector.sT nw.sectors) xnw1→Rd W.heap.size W (DAntenna.sT nw.antennas) xnw2→Rd W.heap.size W (DRadio.sT nw.radios) xnw3→Rd W.heap.size W (DBand.sT bs) xbs0→sizL t.tr≤1048576→sizL nw.tr≤1048576→siz (DBand.sT bs)≤1048576→sizL p.tr≤1048576→Calls Tryz.prog 31 #[.agg #[.int .i64 t.step,.int .i64 t.width,.int .i64 t.height,xt3,xt4],.agg #[xnw0,xnw1,xnw2,xnw3],xbs0,.agg #[.string p.name,.int .i64 p.at_.place.x,.int .i64 p.at_.place.y,.int .i64 p.at_.above,.int .i64 p.low,.int .i64 p.high,.int .i64 p.limit]] W (fun e w'=>∃ a0_0 c0_0 fp0,e=.returned (.tuple #[.slice a0_0 R.1.length c0_0,.int .i64 R.2])∧Below W.heap.size W w'∧Own w' (zd2 R.1) (.slice a0_0 R.1.length c0_0) fp0∧In W.heap.size w'.heap.size fp0)):=fun W xt3 xt4 xnw0 xnw1 xnw2 xnw3 xbs0 hll yt3 yt4 ynw0 ynw1 ynw2 ynw3 ybs0 z0 z1 z2 z3=>by rw[← HR.out];exact iExceedingSectors_std t nw bs p xt3 xt4 xnw0 xnw1 xnw2 xnw3 xbs0 W hll yt3 yt4 ynw0 ynw1 ynw2 ynw3 ybs0 z0 hk_t z1 hk_nw z2 hk_bs z3 hk_p
 go_enter Tryz.func5,Tryz.ntmps5;go_wp2_with fail;have BX1:Hid (Below w.heap.size w (((w.alloc (.cells #[.int .i64 t.step,.int .i64 t.width,.int .i64 t.height,vt3,vt4] 24)).alloc (.cells #[vnw0,vnw1,vnw2,vnw3] 30)).alloc (.cells #[.string p.name,.int .i64 p.at_.place.x,.int .i64 p.at_.place.y,.int .i64 p.at_.above,.int .i64 p.low,.int .i64 p.high,.int .i64 p.limit] 59))):=(((BB0.out.alloc (by first|omega|(simp;done)|(simp<;>omega)) _).alloc (by first|omega|(simp;done)|(simp<;>omega)) _).alloc (by first|omega|(simp;done)|(simp<;>omega)) _)
 have zx1:=BX1.out.size;refine (sz_Terrain t vt3 vt4 w.heap.size _ _ (Ht3.out.below BX1.out) (Ht4.out.below BX1.out) (by omega) (by omega) (by omega) hk_t).mono ?_;rintro e w1 ⟨⟨cz1,rfl⟩|⟨cz1,rfl⟩,hb1⟩
 case inr =>
  go_wp2;go_ret;exact⟨rfl,BX1.out.trans (hb1.mono (by omega))⟩
 have cy1:decide ((1048576:Int)-sizL t.tr<0)=false:=by simp<;>omega
 have hx1:Below w.heap.size w (((w.alloc (.cells #[.int .i64 t.step,.int .i64 t.width,.int .i64 t.height,vt3,vt4] 24)).alloc (.cells #[vnw0,vnw1,vnw2,vnw3] 30)).alloc (.cells #[.string p.name,.int .i64 p.at_.place.x,.int .i64 p.at_.place.y,.int .i64 p.at_.above,.int .i64 p.low,.int .i64 p.high,.int .i64 p.limit] 59)):=((((Below.refl _ _).alloc (Nat.le_refl _) _).alloc (by first|(simp;done)|(simp<;>omega)) _).alloc (by first|(simp;done)|(simp<;>omega)) _)
 have hbb1:Below w.heap.size w w1:=hx1.trans (hb1.mono (by first|(simp;done)|(simp<;>omega)));have z1:=hbb1.size;obtain⟨qAt1,_,yAt1⟩:=zad hb1 (b:=w.heap.size) (by first|omega|(simp;done)|(simp<;>omega));obtain⟨qAnw1,_,yAnw1⟩:=zad hb1 (b:=w.heap.size+1) (by first|omega|(simp;done)|(simp<;>omega));obtain⟨qAp1,_,yAp1⟩:=zad hb1 (b:=w.heap.size+1+1) (by first|omega|(simp;done)|(simp<;>omega));have BB1:=Lib.hid (BB0.out.trans (hbb1.mono (by omega)));clear hx1;clear hb1 hbb1;have CZ1:=Lib.hid cy1;go_wp2_with fail;have BX2:Hid (Below w.heap.size w w1):=BB1.out;have zx2:=BX2.out.size
 (try clear zx1)
 refine (sz_Network nw vnw0 vnw1 vnw2 vnw3 w.heap.size _ _ (Hnw0.out.below BX2.out) (Hnw1.out.below BX2.out) (Hnw2.out.below BX2.out) (Hnw3.out.below BX2.out) (by omega) (by omega) (by omega) hk_nw).mono ?_;rintro e w2 ⟨⟨cz2,rfl⟩|⟨cz2,rfl⟩,hb2⟩
 case inr =>
  go_wp2;go_ret;exact⟨rfl,BX2.out.trans (hb2.mono (by omega))⟩
 have cy2:decide (((1048576:Int)-sizL t.tr)-sizL nw.tr<0)=false:=by simp<;>omega
 have hbb2:Below w1.heap.size w1 w2:=hb2;have z2:=hbb2.size;obtain⟨qAt2,_,yAt2⟩:=zad hb2 (b:=w.heap.size) (by first|omega|(simp;done)|(simp<;>omega));obtain⟨qAnw2,_,yAnw2⟩:=zad hb2 (b:=w.heap.size+1) (by first|omega|(simp;done)|(simp<;>omega));obtain⟨qAp2,_,yAp2⟩:=zad hb2 (b:=w.heap.size+1+1) (by first|omega|(simp;done)|(simp<;>omega));have BB2:=Lib.hid (BB1.out.trans (hbb2.mono (by omega)));clear hbb2;have CZ2:=Lib.hid cy2;go_wp2_with fail;have BX3:Hid (Below w.heap.size w w2):=BB2.out;have zx3:=BX3.out.size
 (try clear zx2)
 refine (sz_BandS bs _ w.heap.size _ _ (Hbs0.out.below BX3.out) (by omega) (by omega) (by omega) hk_bs).mono ?_;rintro e w3 ⟨⟨cz3,rfl⟩|⟨cz3,rfl⟩,hb3⟩
 case inr =>
  go_wp2;go_ret;exact⟨rfl,BX3.out.trans (hb3.mono (by omega))⟩
 have cy3:decide ((((1048576:Int)-sizL t.tr)-sizL nw.tr)-siz (DBand.sT bs)<0)=false:=by simp<;>omega
 have hbb3:Below w2.heap.size w2 w3:=hb3;have z3:=hbb3.size;obtain⟨qAt3,_,yAt3⟩:=zad hb3 (b:=w.heap.size) (by first|omega|(simp;done)|(simp<;>omega))
 (try clear yAt2)
 obtain⟨qAnw3,_,yAnw3⟩:=zad hb3 (b:=w.heap.size+1) (by first|omega|(simp;done)|(simp<;>omega))
 (try clear yAnw2)
 obtain⟨qAp3,_,yAp3⟩:=zad hb3 (b:=w.heap.size+1+1) (by first|omega|(simp;done)|(simp<;>omega))
 (try clear yAp2)
 have BB3:=Lib.hid (BB2.out.trans (hbb3.mono (by omega)));clear hbb3;have CZ3:=Lib.hid cy3;go_wp2_with fail;have BX4:Hid (Below w.heap.size w w3):=BB3.out;have zx4:=BX4.out.size
 (try clear zx3)
 refine (sz_Protected p  w.heap.size _ _  (by omega) (by omega) (by omega) hk_p).mono ?_;rintro e w4 ⟨⟨cz4,rfl⟩|⟨cz4,rfl⟩,hb4⟩
 case inr =>
  go_wp2;go_ret;exact⟨rfl,BX4.out.trans (hb4.mono (by omega))⟩
 have cy4:decide (((((1048576:Int)-sizL t.tr)-sizL nw.tr)-siz (DBand.sT bs))-sizL p.tr<0)=false:=by simp<;>omega
 have hbb4:Below w3.heap.size w3 w4:=hb4;have z4:=hbb4.size;obtain⟨qAt4,_,yAt4⟩:=zad hb4 (b:=w.heap.size) (by first|omega|(simp;done)|(simp<;>omega))
 (try clear yAt3)
 obtain⟨qAnw4,_,yAnw4⟩:=zad hb4 (b:=w.heap.size+1) (by first|omega|(simp;done)|(simp<;>omega))
 (try clear yAnw3)
 obtain⟨qAp4,_,yAp4⟩:=zad hb4 (b:=w.heap.size+1+1) (by first|omega|(simp;done)|(simp<;>omega))
 (try clear yAp3)
 have BB4:=Lib.hid (BB3.out.trans (hbb4.mono (by omega)));clear hbb4;have CZ4:=Lib.hid cy4;go_wp2;have hcf:w4.cell? ⟨w.heap.size,0,none⟩=some (.int .i64 t.step)∧w4.cell? ⟨w.heap.size,1,none⟩=some (.int .i64 t.width)∧w4.cell? ⟨w.heap.size,2,none⟩=some (.int .i64 t.height)∧w4.cell? ⟨w.heap.size,3,none⟩=some (vt3)∧w4.cell? ⟨w.heap.size,4,none⟩=some (vt4)∧w4.cell? ⟨w.heap.size+1,0,none⟩=some (vnw0)∧w4.cell? ⟨w.heap.size+1,1,none⟩=some (vnw1)∧w4.cell? ⟨w.heap.size+1,2,none⟩=some (vnw2)∧w4.cell? ⟨w.heap.size+1,3,none⟩=some (vnw3)∧w4.cell? ⟨w.heap.size+1+1,0,none⟩=some (.string p.name)∧w4.cell? ⟨w.heap.size+1+1,1,none⟩=some (.int .i64 p.at_.place.x)∧w4.cell? ⟨w.heap.size+1+1,2,none⟩=some (.int .i64 p.at_.place.y)∧w4.cell? ⟨w.heap.size+1+1,3,none⟩=some (.int .i64 p.at_.above)∧w4.cell? ⟨w.heap.size+1+1,4,none⟩=some (.int .i64 p.low)∧w4.cell? ⟨w.heap.size+1+1,5,none⟩=some (.int .i64 p.high)∧w4.cell? ⟨w.heap.size+1+1,6,none⟩=some (.int .i64 p.limit):=by refine⟨?_,?_,?_,?_,?_,?_,?_,?_,?_,?_,?_,?_,?_,?_,?_,?_⟩<;>simp[go_sem, *]
 have HKB:Hid (∀ W:World,Below w4.heap.size w4 W→W.cell? ⟨w.heap.size,0,none⟩=some (.int .i64 t.step)∧W.cell? ⟨w.heap.size,1,none⟩=some (.int .i64 t.width)∧W.cell? ⟨w.heap.size,2,none⟩=some (.int .i64 t.height)∧W.cell? ⟨w.heap.size,3,none⟩=some (vt3)∧W.cell? ⟨w.heap.size,4,none⟩=some (vt4)∧W.cell? ⟨w.heap.size+1,0,none⟩=some (vnw0)∧W.cell? ⟨w.heap.size+1,1,none⟩=some (vnw1)∧W.cell? ⟨w.heap.size+1,2,none⟩=some (vnw2)∧W.cell? ⟨w.heap.size+1,3,none⟩=some (vnw3)∧W.cell? ⟨w.heap.size+1+1,0,none⟩=some (.string p.name)∧W.cell? ⟨w.heap.size+1+1,1,none⟩=some (.int .i64 p.at_.place.x)∧W.cell? ⟨w.heap.size+1+1,2,none⟩=some (.int .i64 p.at_.place.y)∧W.cell? ⟨w.heap.size+1+1,3,none⟩=some (.int .i64 p.at_.above)∧W.cell? ⟨w.heap.size+1+1,4,none⟩=some (.int .i64 p.low)∧W.cell? ⟨w.heap.size+1+1,5,none⟩=some (.int .i64 p.high)∧W.cell? ⟨w.heap.size+1+1,6,none⟩=some (.int .i64 p.limit)):=fun W hW=>by
  obtain⟨e0,e1,e2,e3,e4,e5,e6,e7,e8,e9,e10,e11,e12,e13,e14,e15⟩:=hcf;exact⟨(bat hW _ _ (by omega)).trans e0,(bat hW _ _ (by omega)).trans e1,(bat hW _ _ (by omega)).trans e2,(bat hW _ _ (by omega)).trans e3,(bat hW _ _ (by omega)).trans e4,(bat hW _ _ (by omega)).trans e5,(bat hW _ _ (by omega)).trans e6,(bat hW _ _ (by omega)).trans e7,(bat hW _ _ (by omega)).trans e8,(bat hW _ _ (by omega)).trans e9,(bat hW _ _ (by omega)).trans e10,(bat hW _ _ (by omega)).trans e11,(bat hW _ _ (by omega)).trans e12,(bat hW _ _ (by omega)).trans e13,(bat hW _ _ (by omega)).trans e14,(bat hW _ _ (by omega)).trans e15⟩
 clear hcf;have BBd:Hid (Below w4.heap.size w4 w4.drew):=(Below.refl _ _).drew;go_cut [10,11] (fun s0 s1 wx=>∃ (as00:Option Addr) (cs00:Nat) (fs00:List Nat),s0=.slice as00 R.1.length cs00∧s1=.int .i64 R.2∧Below w4.heap.size w4 wx∧Own wx (zd2 R.1) (.slice as00 R.1.length cs00) fs00∧In w4.heap.size wx.heap.size fs00)
 case first =>
  refine zau 13 (.read 0 (.read 2 (.read 4 (.read 6 (.one 1 (.one 3 (.one 5 (.one 7 (.one 8 (.read 9 (.read 10 (.read 11 (.read 12 .nil))))))))))))) (fun W=>W.cell? ⟨w.heap.size,0,none⟩=some (.int .i64 t.step)∧W.cell? ⟨w.heap.size,1,none⟩=some (.int .i64 t.width)∧W.cell? ⟨w.heap.size,2,none⟩=some (.int .i64 t.height)∧W.cell? ⟨w.heap.size,3,none⟩=some (vt3)∧W.cell? ⟨w.heap.size,4,none⟩=some (vt4)∧W.cell? ⟨w.heap.size+1,0,none⟩=some (vnw0)∧W.cell? ⟨w.heap.size+1,1,none⟩=some (vnw1)∧W.cell? ⟨w.heap.size+1,2,none⟩=some (vnw2)∧W.cell? ⟨w.heap.size+1,3,none⟩=some (vnw3)∧W.cell? ⟨w.heap.size+1+1,0,none⟩=some (.string p.name)∧W.cell? ⟨w.heap.size+1+1,1,none⟩=some (.int .i64 p.at_.place.x)∧W.cell? ⟨w.heap.size+1+1,2,none⟩=some (.int .i64 p.at_.place.y)∧W.cell? ⟨w.heap.size+1+1,3,none⟩=some (.int .i64 p.at_.above)∧W.cell? ⟨w.heap.size+1+1,4,none⟩=some (.int .i64 p.low)∧W.cell? ⟨w.heap.size+1+1,5,none⟩=some (.int .i64 p.high)∧W.cell? ⟨w.heap.size+1+1,6,none⟩=some (.int .i64 p.limit)) (by kernel_rfl) (by kernel_rfl) (HKB.out _ BBd.out) ?_;have zd:w4.heap.size≤w4.drew.heap.size:=Nat.le_refl _;generalize w4.drew=Y at *;refine zag (v:=?_) rfl (fun _ _ _ h=>h) ?_ ?_
  rotate_left
  ·(intro W hSW;(try dsimp only at hSW);(go_simp<;>with_reducible rfl))
  (try simp only[Act.put,List.setIfInBounds_toArray,List.set_cons_zero,List.set_cons_succ])
  refine zag (v:=?_) rfl (fun _ _ _ h=>h) ?_ ?_
  rotate_left
  ·(intro W hSW;(try dsimp only at hSW);(go_simp<;>with_reducible rfl))
  (try simp only[Act.put,List.setIfInBounds_toArray,List.set_cons_zero,List.set_cons_succ])
  refine zag (v:=?_) rfl (fun _ _ _ h=>h) ?_ ?_
  rotate_left
  ·(intro W hSW;(try dsimp only at hSW);(go_simp<;>with_reducible rfl))
  (try simp only[Act.put,List.setIfInBounds_toArray,List.set_cons_zero,List.set_cons_succ])
  refine zag (v:=?_) rfl (fun _ _ _ h=>h) ?_ ?_
  rotate_left
  ·(intro W hSW;(try dsimp only at hSW);(go_simp<;>with_reducible rfl))
  (try simp only[Act.put,List.setIfInBounds_toArray,List.set_cons_zero,List.set_cons_succ])
  refine zaf ?_;refine zah rfl (fun K hK=>?_);go_simp;refine (zdo t _ _ _ ((Ht3.out.below (BB4.out.trans (BBd.out.mono (by omega)))).mono (by omega)) ((Ht4.out.below (BB4.out.trans (BBd.out.mono (by omega)))).mono (by omega)) (by omega)).mono ?_;rintro e Y1 ⟨att3,ctt3,att4,ctt4,ftt,rfl,hb1,ov1,iv1⟩;refine hK.out _ _ (HKB.out _ (BBd.out.trans (hb1.mono (by omega)))) ?_;clear hK K
  (try simp only[Act.put,List.setIfInBounds_toArray,List.set_cons_zero,List.set_cons_succ])
  have OT1:=Lib.hid ov1;have itt:=iv1;clear ov1 iv1;have bs1:Y.heap.size≤Y1.heap.size:=hb1.size;have BY1:=Lib.hid (BBd.out.trans (hb1.mono (by omega)));clear hb1;refine zaf ?_;refine zah rfl (fun K hK=>?_);go_simp;refine (zdq nw _ _ _ _ _ ((Hnw0.out.below (BB4.out.trans (BY1.out.mono (by omega)))).mono (by omega)) ((Hnw1.out.below (BB4.out.trans (BY1.out.mono (by omega)))).mono (by omega)) ((Hnw2.out.below (BB4.out.trans (BY1.out.mono (by omega)))).mono (by omega)) ((Hnw3.out.below (BB4.out.trans (BY1.out.mono (by omega)))).mono (by omega)) (by omega)).mono ?_;rintro e Y2 ⟨atnw0,ctnw0,atnw1,ctnw1,atnw2,ctnw2,atnw3,ctnw3,ftnw,rfl,hb2,ov2,iv2⟩;refine hK.out _ _ (HKB.out _ (BY1.out.trans (hb2.mono (by omega)))) ?_;clear hK K
  (try simp only[Act.put,List.setIfInBounds_toArray,List.set_cons_zero,List.set_cons_succ])
  have OT2:=Lib.hid ov2;have itnw:=iv2;clear ov2 iv2;have bs2:Y1.heap.size≤Y2.heap.size:=hb2.size;have BY2:=Lib.hid (BY1.out.trans (hb2.mono (by omega)));have OT2_t:=Lib.hid (OT1.out.below itt (by omega) hb2);clear hb2;refine zaf ?_;refine zah rfl (fun K hK=>?_);go_simp;refine (ze8 bs _ _ ((Hbs0.out.below (BB4.out.trans (BY2.out.mono (by omega)))).mono (by omega)) (by omega)).mono ?_;rintro e Y3 ⟨atbs0,ctbs0,ftbs,rfl,hb3,ov3,iv3⟩;refine hK.out _ _ (HKB.out _ (BY2.out.trans (hb3.mono (by omega)))) ?_;clear hK K
  (try simp only[Act.put,List.setIfInBounds_toArray,List.set_cons_zero,List.set_cons_succ])
  have OT3:=Lib.hid ov3;have itbs:=iv3;clear ov3 iv3;have bs3:Y2.heap.size≤Y3.heap.size:=hb3.size;have BY3:=Lib.hid (BY2.out.trans (hb3.mono (by omega)));have OT3_t:=Lib.hid (OT2_t.out.below itt (by omega) hb3);have OT3_nw:=Lib.hid (OT2.out.below itnw (by omega) hb3);clear hb3;refine zaf ?_;refine zah rfl (fun K hK=>?_);go_simp;refine (zdp p _).mono ?_;rintro e Y4 ⟨rfl,hb4⟩;refine hK.out _ _ (HKB.out _ (BY3.out.trans (hb4.mono (by omega)))) ?_;clear hK K
  (try simp only[Act.put,List.setIfInBounds_toArray,List.set_cons_zero,List.set_cons_succ])
  have bs4:Y3.heap.size≤Y4.heap.size:=hb4.size;have BY4:=Lib.hid (BY3.out.trans (hb4.mono (by omega)));have OT4_t:=Lib.hid (OT3_t.out.below itt (by omega) hb4);have OT4_nw:=Lib.hid (OT3_nw.out.below itnw (by omega) hb4);have OT4_bs:=Lib.hid (OT3.out.below itbs (by omega) hb4);clear hb4;refine zaf ?_;refine zah rfl (fun K hK=>?_);go_simp;refine (HS.out _ _ _ _ _ _ _ _ (((OT4_t.out.rd itt).2.2.2.1).mono (by omega)) (((OT4_t.out.rd itt).2.2.2.2.1).mono (by omega)) (((OT4_nw.out.rd itnw).1).mono (by omega)) (((OT4_nw.out.rd itnw).2.1).mono (by omega)) (((OT4_nw.out.rd itnw).2.2.1).mono (by omega)) (((OT4_nw.out.rd itnw).2.2.2.1).mono (by omega)) (((OT4_bs.out.rd itbs)).mono (by omega)) (by omega) (by omega) (by omega) (by omega)).mono ?_;rintro e Y5 ⟨as00,cs00,fs00,rfl,hb5,ov5,iv5⟩;refine hK.out _ _ (HKB.out _ (BY4.out.trans (hb5.mono (by omega)))) ?_;clear hK K
  (try simp only[Act.put,List.setIfInBounds_toArray,List.set_cons_zero,List.set_cons_succ])
  have OR5:=Lib.hid ov5;have IR5:=Lib.hid iv5;clear ov5 iv5;have bs5:Y4.heap.size≤Y5.heap.size:=hb5.size;have BY5:=Lib.hid (BY4.out.trans (hb5.mono (by omega)));clear hb5;refine zag (v:=?_) rfl (fun _ _ _ h=>h) ?_ ?_
  rotate_left
  ·(intro W hSW;(try dsimp only at hSW);(go_simp<;>with_reducible rfl))
  (try simp only[Act.put,List.setIfInBounds_toArray,List.set_cons_zero,List.set_cons_succ])
  refine zag (v:=?_) rfl (fun _ _ _ h=>h) ?_ ?_
  rotate_left
  ·(intro W hSW;(try dsimp only at hSW);(go_simp<;>with_reducible rfl))
  (try simp only[Act.put,List.setIfInBounds_toArray,List.set_cons_zero,List.set_cons_succ])
  refine zag (v:=?_) rfl (fun _ _ _ h=>h) ?_ ?_
  rotate_left
  ·(intro W hSW;(try dsimp only at hSW);(go_simp<;>with_reducible rfl))
  (try simp only[Act.put,List.setIfInBounds_toArray,List.set_cons_zero,List.set_cons_succ])
  refine zag (v:=?_) rfl (fun _ _ _ h=>h) ?_ ?_
  rotate_left
  ·(intro W hSW;(try dsimp only at hSW);(go_simp<;>with_reducible rfl))
  (try simp only[Act.put,List.setIfInBounds_toArray,List.set_cons_zero,List.set_cons_succ])
  refine zas ?_;simp only[List.drop_succ_cons,List.drop_zero];go_wp2_with fail;go_meet;exact⟨_,_,_,rfl,rfl,BY5.out,OR5.out,IR5.out.mono (by omega) (Nat.le_refl _)⟩
 obtain⟨as00,cs00,fs00,rfl,rfl,hb5,ows0,iws0⟩:=hcut;generalize wc=w5 at *;clear HKB BBd;have hbb5:Below w4.heap.size w4 w5:=hb5;have z5:=hbb5.size;obtain⟨qAt5,_,yAt5⟩:=zad hb5 (b:=w.heap.size) (by first|omega|(simp;done)|(simp<;>omega))
 (try clear yAt4)
 obtain⟨qAnw5,_,yAnw5⟩:=zad hb5 (b:=w.heap.size+1) (by first|omega|(simp;done)|(simp<;>omega))
 (try clear yAnw4)
 obtain⟨qAp5,_,yAp5⟩:=zad hb5 (b:=w.heap.size+1+1) (by first|omega|(simp;done)|(simp<;>omega))
 (try clear yAp4)
 have BB5:=Lib.hid (BB4.out.trans (hbb5.mono (by omega)));clear hbb5;have is00:=iws0;have os00_5:=Lib.hid ows0;clear iws0 ows0;go_wp2_with fail;have BX6:Hid (Below w.heap.size w w5):=BB5.out;have zx6:=BX6.out.size
 (try clear zx4)
 refine (zdo t _ _ _ ((Ht3.out.below BX6.out).mono zx6) ((Ht4.out.below BX6.out).mono zx6) (by omega)).mono ?_;rintro e w6 ⟨aut3,cut3,aut4,cut4,fut,rfl,hb6,ov6,iv6⟩;have hbb6:Below w5.heap.size w5 w6:=hb6;have z6:=hbb6.size;obtain⟨qAt6,_,yAt6⟩:=zad hb6 (b:=w.heap.size) (by first|omega|(simp;done)|(simp<;>omega))
 (try clear yAt5)
 obtain⟨qAnw6,_,yAnw6⟩:=zad hb6 (b:=w.heap.size+1) (by first|omega|(simp;done)|(simp<;>omega))
 (try clear yAnw5)
 obtain⟨qAp6,_,yAp6⟩:=zad hb6 (b:=w.heap.size+1+1) (by first|omega|(simp;done)|(simp<;>omega))
 (try clear yAp5)
 have BB6:=Lib.hid (BB5.out.trans (hbb6.mono (by omega)));have os00_6:=Lib.hid (os00_5.out.below is00 (by omega) hbb6);clear hbb6;obtain⟨g6_0,r6_0,e6_0,p6_0,ov6_0,d6_0⟩:=OwnV.uncons ov6;obtain⟨_,hz6_0⟩:=zcq.1 p6_0.rep;subst hz6_0;obtain⟨g6_1,r6_1,e6_1,p6_1,ov6_1,d6_1⟩:=OwnV.uncons ov6_0;obtain⟨_,hz6_1⟩:=zcq.1 p6_1.rep;subst hz6_1;obtain⟨g6_2,r6_2,e6_2,p6_2,ov6_2,d6_2⟩:=OwnV.uncons ov6_1;obtain⟨_,hz6_2⟩:=zcq.1 p6_2.rep;subst hz6_2;obtain⟨g6_3,r6_3,e6_3,p6_3,ov6_3,d6_3⟩:=OwnV.uncons ov6_2;obtain⟨g6_4,r6_4,e6_4,p6_4,ov6_4,d6_4⟩:=OwnV.uncons ov6_3;have iw6:=iv6.mono (lo':=w5.heap.size+0) (by first|omega|(simp;done)|(simp<;>omega)) (Nat.le_refl _);have hnil6:=ov6_4.rep;change r6_4 = [] at hnil6
 subst hnil6;subst e6_4;subst e6_3;subst e6_2;subst e6_1;subst e6_0;have iut3:In _ _ g6_3:=fun y hy=>iw6 y (by simp[hy])
 have out3_6:=Lib.hid p6_3;have iut4:In _ _ g6_4:=fun y hy=>iw6 y (by simp[hy])
 have out4_6:=Lib.hid p6_4;have djut3_4:∀ y ∈ g6_3,y ∉ g6_4:=fun y hy e=>d6_3 y hy (by simp[e])
 clear p6_0 ov6_0 d6_0 p6_1 ov6_1 d6_1 p6_2 ov6_2 d6_2 p6_3 ov6_3 d6_3 p6_4 ov6_4 d6_4 ov6 iv6 iw6;go_wp2_with fail;have BX7:Hid (Below w.heap.size w (w6.alloc (.cells #[.int .i64 t.step,.int .i64 t.width,.int .i64 t.height,.slice aut3 t.heights.length cut3,.slice aut4 t.clutter.length cut4] 37))):=(BB6.out.alloc (by first|omega|(simp;done)|(simp<;>omega)) _)
 have zx7:=BX7.out.size
 (try clear zx6)
 refine (zdq nw _ _ _ _ _ ((Hnw0.out.below BX7.out).mono zx7) ((Hnw1.out.below BX7.out).mono zx7) ((Hnw2.out.below BX7.out).mono zx7) ((Hnw3.out.below BX7.out).mono zx7) (by omega)).mono ?_;rintro e w7 ⟨aunw0,cunw0,aunw1,cunw1,aunw2,cunw2,aunw3,cunw3,funw,rfl,hb7,ov7,iv7⟩;have hx7:Below w6.heap.size w6 (w6.alloc (.cells #[.int .i64 t.step,.int .i64 t.width,.int .i64 t.height,.slice aut3 t.heights.length cut3,.slice aut4 t.clutter.length cut4] 37)):=((Below.refl _ _).alloc (Nat.le_refl _) _)
 have hbb7:Below w6.heap.size w6 w7:=hx7.trans (hb7.mono (by first|(simp;done)|(simp<;>omega)));have z7:=hbb7.size;obtain⟨qAt7,_,yAt7⟩:=zad hb7 (b:=w.heap.size) (by first|omega|(simp;done)|(simp<;>omega));obtain⟨qAnw7,_,yAnw7⟩:=zad hb7 (b:=w.heap.size+1) (by first|omega|(simp;done)|(simp<;>omega));obtain⟨qAp7,_,yAp7⟩:=zad hb7 (b:=w.heap.size+1+1) (by first|omega|(simp;done)|(simp<;>omega));obtain⟨qUt7,_,yUt7⟩:=zad hb7 (b:=w6.heap.size) (by first|omega|(simp;done)|(simp<;>omega));have BB7:=Lib.hid (BB6.out.trans (hbb7.mono (by omega)));have os00_7:=Lib.hid (os00_6.out.below is00 (by omega) hbb7);have out3_7:=Lib.hid (out3_6.out.below iut3 (by omega) hbb7);have out4_7:=Lib.hid (out4_6.out.below iut4 (by omega) hbb7);clear hx7;clear hb7 hbb7;obtain⟨g7_0,r7_0,e7_0,p7_0,ov7_0,d7_0⟩:=OwnV.uncons ov7;obtain⟨g7_1,r7_1,e7_1,p7_1,ov7_1,d7_1⟩:=OwnV.uncons ov7_0;obtain⟨g7_2,r7_2,e7_2,p7_2,ov7_2,d7_2⟩:=OwnV.uncons ov7_1;obtain⟨g7_3,r7_3,e7_3,p7_3,ov7_3,d7_3⟩:=OwnV.uncons ov7_2;have iw7:=iv7.mono (lo':=w6.heap.size+1) (by first|omega|(simp;done)|(simp<;>omega)) (Nat.le_refl _);have hnil7:=ov7_3.rep;change r7_3 = [] at hnil7
 subst hnil7;subst e7_3;subst e7_2;subst e7_1;subst e7_0;have iunw0:In _ _ g7_0:=fun y hy=>iw7 y (by simp[hy])
 have ounw0_7:=Lib.hid p7_0;have iunw1:In _ _ g7_1:=fun y hy=>iw7 y (by simp[hy])
 have ounw1_7:=Lib.hid p7_1;have iunw2:In _ _ g7_2:=fun y hy=>iw7 y (by simp[hy])
 have ounw2_7:=Lib.hid p7_2;have iunw3:In _ _ g7_3:=fun y hy=>iw7 y (by simp[hy])
 have ounw3_7:=Lib.hid p7_3;have djunw0_1:∀ y ∈ g7_0,y ∉ g7_1:=fun y hy e=>d7_0 y hy (by simp[e])
 have djunw0_2:∀ y ∈ g7_0,y ∉ g7_2:=fun y hy e=>d7_0 y hy (by simp[e])
 have djunw0_3:∀ y ∈ g7_0,y ∉ g7_3:=fun y hy e=>d7_0 y hy (by simp[e])
 have djunw1_2:∀ y ∈ g7_1,y ∉ g7_2:=fun y hy e=>d7_1 y hy (by simp[e])
 have djunw1_3:∀ y ∈ g7_1,y ∉ g7_3:=fun y hy e=>d7_1 y hy (by simp[e])
 have djunw2_3:∀ y ∈ g7_2,y ∉ g7_3:=fun y hy e=>d7_2 y hy (by simp[e])
 clear p7_0 ov7_0 d7_0 p7_1 ov7_1 d7_1 p7_2 ov7_2 d7_2 p7_3 ov7_3 d7_3 ov7 iv7 iw7;go_wp2_with fail;have BX8:Hid (Below w.heap.size w (w7.alloc (.cells #[.slice aunw0 nw.sites.length cunw0,.slice aunw1 nw.sectors.length cunw1,.slice aunw2 nw.antennas.length cunw2,.slice aunw3 nw.radios.length cunw3] 44))):=(BB7.out.alloc (by first|omega|(simp;done)|(simp<;>omega)) _)
 have zx8:=BX8.out.size
 (try clear zx7)
 refine (ze8 bs _ _ ((Hbs0.out.below BX8.out).mono zx8) (by omega)).mono ?_;rintro e w8 ⟨aubs0,cubs0,fubs0,rfl,hb8,ov8,iqubs0⟩;have iubs0:=iqubs0.mono (lo':=w7.heap.size+1) (by first|omega|(simp;done)|(simp<;>omega)) (Nat.le_refl _);clear iqubs0;have hx8:Below w7.heap.size w7 (w7.alloc (.cells #[.slice aunw0 nw.sites.length cunw0,.slice aunw1 nw.sectors.length cunw1,.slice aunw2 nw.antennas.length cunw2,.slice aunw3 nw.radios.length cunw3] 44)):=((Below.refl _ _).alloc (Nat.le_refl _) _)
 have hbb8:Below w7.heap.size w7 w8:=hx8.trans (hb8.mono (by first|(simp;done)|(simp<;>omega)));have z8:=hbb8.size;obtain⟨qAt8,_,yAt8⟩:=zad hb8 (b:=w.heap.size) (by first|omega|(simp;done)|(simp<;>omega));obtain⟨qAnw8,_,yAnw8⟩:=zad hb8 (b:=w.heap.size+1) (by first|omega|(simp;done)|(simp<;>omega));obtain⟨qAp8,_,yAp8⟩:=zad hb8 (b:=w.heap.size+1+1) (by first|omega|(simp;done)|(simp<;>omega));obtain⟨qUt8,_,yUt8⟩:=zad hb8 (b:=w6.heap.size) (by first|omega|(simp;done)|(simp<;>omega));obtain⟨qUnw8,_,yUnw8⟩:=zad hb8 (b:=w7.heap.size) (by first|omega|(simp;done)|(simp<;>omega));have BB8:=Lib.hid (BB7.out.trans (hbb8.mono (by omega)));have os00_8:=Lib.hid (os00_7.out.below is00 (by omega) hbb8);have out3_8:=Lib.hid (out3_7.out.below iut3 (by omega) hbb8);have out4_8:=Lib.hid (out4_7.out.below iut4 (by omega) hbb8);have ounw0_8:=Lib.hid (ounw0_7.out.below iunw0 (by omega) hbb8);have ounw1_8:=Lib.hid (ounw1_7.out.below iunw1 (by omega) hbb8);have ounw2_8:=Lib.hid (ounw2_7.out.below iunw2 (by omega) hbb8);have ounw3_8:=Lib.hid (ounw3_7.out.below iunw3 (by omega) hbb8);clear hx8;clear hb8 hbb8;have oubs0_8:=Lib.hid ov8;clear ov8;go_wp2;have hcf:w8.cell? ⟨w6.heap.size,0,none⟩=some (.int .i64 t.step)∧w8.cell? ⟨w6.heap.size,1,none⟩=some (.int .i64 t.width)∧w8.cell? ⟨w6.heap.size,2,none⟩=some (.int .i64 t.height)∧w8.cell? ⟨w6.heap.size,3,none⟩=some (.slice aut3 t.heights.length cut3)∧w8.cell? ⟨w6.heap.size,4,none⟩=some (.slice aut4 t.clutter.length cut4)∧w8.cell? ⟨w7.heap.size,0,none⟩=some (.slice aunw0 nw.sites.length cunw0)∧w8.cell? ⟨w7.heap.size,1,none⟩=some (.slice aunw1 nw.sectors.length cunw1)∧w8.cell? ⟨w7.heap.size,2,none⟩=some (.slice aunw2 nw.antennas.length cunw2)∧w8.cell? ⟨w7.heap.size,3,none⟩=some (.slice aunw3 nw.radios.length cunw3)∧w8.cell? ⟨w.heap.size+1+1,0,none⟩=some (.string p.name)∧w8.cell? ⟨w.heap.size+1+1,1,none⟩=some (.int .i64 p.at_.place.x)∧w8.cell? ⟨w.heap.size+1+1,2,none⟩=some (.int .i64 p.at_.place.y)∧w8.cell? ⟨w.heap.size+1+1,3,none⟩=some (.int .i64 p.at_.above)∧w8.cell? ⟨w.heap.size+1+1,4,none⟩=some (.int .i64 p.low)∧w8.cell? ⟨w.heap.size+1+1,5,none⟩=some (.int .i64 p.high)∧w8.cell? ⟨w.heap.size+1+1,6,none⟩=some (.int .i64 p.limit):=by refine⟨?_,?_,?_,?_,?_,?_,?_,?_,?_,?_,?_,?_,?_,?_,?_,?_⟩<;>simp[go_sem, *]
 have HKB:Hid (∀ W:World,Below w8.heap.size w8 W→W.cell? ⟨w6.heap.size,0,none⟩=some (.int .i64 t.step)∧W.cell? ⟨w6.heap.size,1,none⟩=some (.int .i64 t.width)∧W.cell? ⟨w6.heap.size,2,none⟩=some (.int .i64 t.height)∧W.cell? ⟨w6.heap.size,3,none⟩=some (.slice aut3 t.heights.length cut3)∧W.cell? ⟨w6.heap.size,4,none⟩=some (.slice aut4 t.clutter.length cut4)∧W.cell? ⟨w7.heap.size,0,none⟩=some (.slice aunw0 nw.sites.length cunw0)∧W.cell? ⟨w7.heap.size,1,none⟩=some (.slice aunw1 nw.sectors.length cunw1)∧W.cell? ⟨w7.heap.size,2,none⟩=some (.slice aunw2 nw.antennas.length cunw2)∧W.cell? ⟨w7.heap.size,3,none⟩=some (.slice aunw3 nw.radios.length cunw3)∧W.cell? ⟨w.heap.size+1+1,0,none⟩=some (.string p.name)∧W.cell? ⟨w.heap.size+1+1,1,none⟩=some (.int .i64 p.at_.place.x)∧W.cell? ⟨w.heap.size+1+1,2,none⟩=some (.int .i64 p.at_.place.y)∧W.cell? ⟨w.heap.size+1+1,3,none⟩=some (.int .i64 p.at_.above)∧W.cell? ⟨w.heap.size+1+1,4,none⟩=some (.int .i64 p.low)∧W.cell? ⟨w.heap.size+1+1,5,none⟩=some (.int .i64 p.high)∧W.cell? ⟨w.heap.size+1+1,6,none⟩=some (.int .i64 p.limit)):=fun W hW=>by
  obtain⟨e0,e1,e2,e3,e4,e5,e6,e7,e8,e9,e10,e11,e12,e13,e14,e15⟩:=hcf;exact⟨(bat hW _ _ (by omega)).trans e0,(bat hW _ _ (by omega)).trans e1,(bat hW _ _ (by omega)).trans e2,(bat hW _ _ (by omega)).trans e3,(bat hW _ _ (by omega)).trans e4,(bat hW _ _ (by omega)).trans e5,(bat hW _ _ (by omega)).trans e6,(bat hW _ _ (by omega)).trans e7,(bat hW _ _ (by omega)).trans e8,(bat hW _ _ (by omega)).trans e9,(bat hW _ _ (by omega)).trans e10,(bat hW _ _ (by omega)).trans e11,(bat hW _ _ (by omega)).trans e12,(bat hW _ _ (by omega)).trans e13,(bat hW _ _ (by omega)).trans e14,(bat hW _ _ (by omega)).trans e15⟩
 clear hcf;have BBd:Hid (Below w8.heap.size w8 w8.drew):=(Below.refl _ _).drew;go_cut [15,16] (fun s0 s1 wx=>∃ (ag00:Option Addr) (cg00:Nat) (fg00:List Nat),s0=.slice ag00 R.1.length cg00∧s1=.int .i64 R.2∧Below w8.heap.size w8 wx∧Own wx (zd2 R.1) (.slice ag00 R.1.length cg00) fg00∧In w8.heap.size wx.heap.size fg00)
 case first =>
  refine zau 10 (.read 0 (.read 1 (.read 2 (.read 3 (.one 4 (.one 5 (.read 6 (.read 7 (.read 8 (.read 9 .nil)))))))))) (fun W=>W.cell? ⟨w6.heap.size,0,none⟩=some (.int .i64 t.step)∧W.cell? ⟨w6.heap.size,1,none⟩=some (.int .i64 t.width)∧W.cell? ⟨w6.heap.size,2,none⟩=some (.int .i64 t.height)∧W.cell? ⟨w6.heap.size,3,none⟩=some (.slice aut3 t.heights.length cut3)∧W.cell? ⟨w6.heap.size,4,none⟩=some (.slice aut4 t.clutter.length cut4)∧W.cell? ⟨w7.heap.size,0,none⟩=some (.slice aunw0 nw.sites.length cunw0)∧W.cell? ⟨w7.heap.size,1,none⟩=some (.slice aunw1 nw.sectors.length cunw1)∧W.cell? ⟨w7.heap.size,2,none⟩=some (.slice aunw2 nw.antennas.length cunw2)∧W.cell? ⟨w7.heap.size,3,none⟩=some (.slice aunw3 nw.radios.length cunw3)∧W.cell? ⟨w.heap.size+1+1,0,none⟩=some (.string p.name)∧W.cell? ⟨w.heap.size+1+1,1,none⟩=some (.int .i64 p.at_.place.x)∧W.cell? ⟨w.heap.size+1+1,2,none⟩=some (.int .i64 p.at_.place.y)∧W.cell? ⟨w.heap.size+1+1,3,none⟩=some (.int .i64 p.at_.above)∧W.cell? ⟨w.heap.size+1+1,4,none⟩=some (.int .i64 p.low)∧W.cell? ⟨w.heap.size+1+1,5,none⟩=some (.int .i64 p.high)∧W.cell? ⟨w.heap.size+1+1,6,none⟩=some (.int .i64 p.limit)) (by kernel_rfl) (by kernel_rfl) (HKB.out _ BBd.out) ?_;have zd:w8.heap.size≤w8.drew.heap.size:=Nat.le_refl _;generalize w8.drew=Y at *;refine zag (v:=?_) rfl (fun _ _ _ h=>h) ?_ ?_
  rotate_left
  ·(intro W hSW;(try dsimp only at hSW);(go_simp<;>with_reducible rfl))
  (try simp only[Act.put,List.setIfInBounds_toArray,List.set_cons_zero,List.set_cons_succ])
  refine zag (v:=?_) rfl (fun _ _ _ h=>h) ?_ ?_
  rotate_left
  ·(intro W hSW;(try dsimp only at hSW);(go_simp<;>with_reducible rfl))
  (try simp only[Act.put,List.setIfInBounds_toArray,List.set_cons_zero,List.set_cons_succ])
  refine zag (v:=?_) rfl (fun _ _ _ h=>h) ?_ ?_
  rotate_left
  ·(intro W hSW;(try dsimp only at hSW);(go_simp<;>with_reducible rfl))
  (try simp only[Act.put,List.setIfInBounds_toArray,List.set_cons_zero,List.set_cons_succ])
  refine zag (v:=?_) rfl (fun _ _ _ h=>h) ?_ ?_
  rotate_left
  ·(intro W hSW;(try dsimp only at hSW);(go_simp<;>with_reducible rfl))
  (try simp only[Act.put,List.setIfInBounds_toArray,List.set_cons_zero,List.set_cons_succ])
  refine zaf ?_;refine zah rfl (fun K hK=>?_);go_simp;refine (zdp p _).mono ?_;rintro e Y1 ⟨rfl,hb1⟩;refine hK.out _ _ (HKB.out _ (BBd.out.trans (hb1.mono (by omega)))) ?_;clear hK K
  (try simp only[Act.put,List.setIfInBounds_toArray,List.set_cons_zero,List.set_cons_succ])
  have bs1:Y.heap.size≤Y1.heap.size:=hb1.size;have BY1:=Lib.hid (BBd.out.trans (hb1.mono (by omega)));clear hb1;refine zaf ?_;refine zah rfl (fun K hK=>?_);go_simp;refine (HI.out _ _ _ _ _ _ _ _ (HLL.out.mono (BB8.out.trans (BY1.out.mono (by omega)))) (((out3_8.out.below iut3 (by omega) BY1.out).rd iut3).mono (by omega)) (((out4_8.out.below iut4 (by omega) BY1.out).rd iut4).mono (by omega)) (((ounw0_8.out.below iunw0 (by omega) BY1.out).rd iunw0).mono (by omega)) (((ounw1_8.out.below iunw1 (by omega) BY1.out).rd iunw1).mono (by omega)) (((ounw2_8.out.below iunw2 (by omega) BY1.out).rd iunw2).mono (by omega)) (((ounw3_8.out.below iunw3 (by omega) BY1.out).rd iunw3).mono (by omega)) (((oubs0_8.out.below iubs0 (by omega) BY1.out).rd iubs0).mono (by omega)) (by omega) (by omega) (by omega) (by omega)).mono ?_;rintro e Y2 ⟨ag00,cg00,fg00,rfl,hb2,ov2,iv2⟩;refine hK.out _ _ (HKB.out _ (BY1.out.trans (hb2.mono (by omega)))) ?_;clear hK K
  (try simp only[Act.put,List.setIfInBounds_toArray,List.set_cons_zero,List.set_cons_succ])
  have OR2:=Lib.hid ov2;have IR2:=Lib.hid iv2;clear ov2 iv2;have bs2:Y1.heap.size≤Y2.heap.size:=hb2.size;have BY2:=Lib.hid (BY1.out.trans (hb2.mono (by omega)));clear hb2;refine zag (v:=?_) rfl (fun _ _ _ h=>h) ?_ ?_
  rotate_left
  ·(intro W hSW;(try dsimp only at hSW);(go_simp<;>with_reducible rfl))
  (try simp only[Act.put,List.setIfInBounds_toArray,List.set_cons_zero,List.set_cons_succ])
  refine zag (v:=?_) rfl (fun _ _ _ h=>h) ?_ ?_
  rotate_left
  ·(intro W hSW;(try dsimp only at hSW);(go_simp<;>with_reducible rfl))
  (try simp only[Act.put,List.setIfInBounds_toArray,List.set_cons_zero,List.set_cons_succ])
  refine zag (v:=?_) rfl (fun _ _ _ h=>h) ?_ ?_
  rotate_left
  ·(intro W hSW;(try dsimp only at hSW);(go_simp<;>with_reducible rfl))
  (try simp only[Act.put,List.setIfInBounds_toArray,List.set_cons_zero,List.set_cons_succ])
  refine zag (v:=?_) rfl (fun _ _ _ h=>h) ?_ ?_
  rotate_left
  ·(intro W hSW;(try dsimp only at hSW);(go_simp<;>with_reducible rfl))
  (try simp only[Act.put,List.setIfInBounds_toArray,List.set_cons_zero,List.set_cons_succ])
  refine zas ?_;simp only[List.drop_succ_cons,List.drop_zero];go_wp2_with fail;go_meet;exact⟨_,_,_,rfl,rfl,BY2.out,OR2.out,IR2.out.mono (by omega) (Nat.le_refl _)⟩
 obtain⟨ag00,cg00,fg00,rfl,rfl,hb9,owg0,iwg0⟩:=hcut;generalize wc=w9 at *;clear HKB BBd;have hbb9:Below w8.heap.size w8 w9:=hb9;have z9:=hbb9.size;obtain⟨qAt9,_,yAt9⟩:=zad hb9 (b:=w.heap.size) (by first|omega|(simp;done)|(simp<;>omega))
 (try clear yAt8)
 obtain⟨qAnw9,_,yAnw9⟩:=zad hb9 (b:=w.heap.size+1) (by first|omega|(simp;done)|(simp<;>omega))
 (try clear yAnw8)
 obtain⟨qAp9,_,yAp9⟩:=zad hb9 (b:=w.heap.size+1+1) (by first|omega|(simp;done)|(simp<;>omega))
 (try clear yAp8)
 obtain⟨qUt9,_,yUt9⟩:=zad hb9 (b:=w6.heap.size) (by first|omega|(simp;done)|(simp<;>omega))
 (try clear yUt8)
 obtain⟨qUnw9,_,yUnw9⟩:=zad hb9 (b:=w7.heap.size) (by first|omega|(simp;done)|(simp<;>omega));have BB9:=Lib.hid (BB8.out.trans (hbb9.mono (by omega)));have os00_9:=Lib.hid (os00_8.out.below is00 (by omega) hbb9);have out3_9:=Lib.hid (out3_8.out.below iut3 (by omega) hbb9);have out4_9:=Lib.hid (out4_8.out.below iut4 (by omega) hbb9);have ounw0_9:=Lib.hid (ounw0_8.out.below iunw0 (by omega) hbb9);have ounw1_9:=Lib.hid (ounw1_8.out.below iunw1 (by omega) hbb9);have ounw2_9:=Lib.hid (ounw2_8.out.below iunw2 (by omega) hbb9);have ounw3_9:=Lib.hid (ounw3_8.out.below iunw3 (by omega) hbb9);have oubs0_9:=Lib.hid (oubs0_8.out.below iubs0 (by omega) hbb9);clear hbb9;have ig00:=iwg0;have og00_9:=Lib.hid owg0;clear iwg0 owg0;go_wp2_with fail;refine ((eq_StringS R.1 _ _ w9.heap.size _ ((og00_9.out.rd ig00).mono (by omega)) ((os00_9.out.rd is00).mono (by omega)) (Nat.le_refl _) (by omega))).mono ?_;rintro e w10 ⟨rfl,hb10⟩;have hbb10:Below w9.heap.size w9 w10:=hb10;have z10:=hbb10.size;obtain⟨qAt10,_,yAt10⟩:=zad hb10 (b:=w.heap.size) (by first|omega|(simp;done)|(simp<;>omega))
 (try clear yAt9)
 obtain⟨qAnw10,_,yAnw10⟩:=zad hb10 (b:=w.heap.size+1) (by first|omega|(simp;done)|(simp<;>omega))
 (try clear yAnw9)
 obtain⟨qAp10,_,yAp10⟩:=zad hb10 (b:=w.heap.size+1+1) (by first|omega|(simp;done)|(simp<;>omega))
 (try clear yAp9)
 obtain⟨qUt10,_,yUt10⟩:=zad hb10 (b:=w6.heap.size) (by first|omega|(simp;done)|(simp<;>omega))
 (try clear yUt9)
 obtain⟨qUnw10,_,yUnw10⟩:=zad hb10 (b:=w7.heap.size) (by first|omega|(simp;done)|(simp<;>omega))
 (try clear yUnw9)
 have BB10:=Lib.hid (BB9.out.trans (hbb10.mono (by omega)));have os00_10:=Lib.hid (os00_9.out.below is00 (by omega) hbb10);have out3_10:=Lib.hid (out3_9.out.below iut3 (by omega) hbb10);have out4_10:=Lib.hid (out4_9.out.below iut4 (by omega) hbb10);have ounw0_10:=Lib.hid (ounw0_9.out.below iunw0 (by omega) hbb10);have ounw1_10:=Lib.hid (ounw1_9.out.below iunw1 (by omega) hbb10);have ounw2_10:=Lib.hid (ounw2_9.out.below iunw2 (by omega) hbb10);have ounw3_10:=Lib.hid (ounw3_9.out.below iunw3 (by omega) hbb10);have oubs0_10:=Lib.hid (oubs0_9.out.below iubs0 (by omega) hbb10);have og00_10:=Lib.hid (og00_9.out.below ig00 (by omega) hbb10);clear hbb10;clear cy1 cy2 cy3 cy4;have hcf:w10.cell? ⟨w6.heap.size,0,none⟩=some (.int .i64 t.step)∧w10.cell? ⟨w6.heap.size,1,none⟩=some (.int .i64 t.width)∧w10.cell? ⟨w6.heap.size,2,none⟩=some (.int .i64 t.height)∧w10.cell? ⟨w6.heap.size,3,none⟩=some (.slice aut3 t.heights.length cut3)∧w10.cell? ⟨w6.heap.size,4,none⟩=some (.slice aut4 t.clutter.length cut4)∧w10.cell? ⟨w.heap.size,0,none⟩=some (.int .i64 t.step)∧w10.cell? ⟨w.heap.size,1,none⟩=some (.int .i64 t.width)∧w10.cell? ⟨w.heap.size,2,none⟩=some (.int .i64 t.height)∧w10.cell? ⟨w.heap.size,3,none⟩=some (vt3)∧w10.cell? ⟨w.heap.size,4,none⟩=some (vt4):=by refine⟨?_,?_,?_,?_,?_,?_,?_,?_,?_,?_⟩<;>simp[go_sem, *]
 go_wp2;have hsame:Below w10.heap.size w10 w10.drew:=⟨rfl,rfl,rfl,Nat.le_refl _,fun _ _=>rfl⟩
 have BBd:=Lib.hid BB10.out.drew;have HTO:=Lib.hid (zdo t vt3 vt4 w10.drew ((Ht3.out.below BBd.out).mono (by show w.heap.size≤w10.heap.size;omega)) ((Ht4.out.below BBd.out).mono (by show w.heap.size≤w10.heap.size;omega)) (by omega));have HEQ:Hid (∀ (W:World) (p3 p4 q3 q4:Value),Below w10.heap.size w10 W→RdV W.heap.size W t.tr [.int .i64 t.step,.int .i64 t.width,.int .i64 t.height,q3,q4]→p3=.slice aut3 t.heights.length cut3→p4=.slice aut4 t.clutter.length cut4→Calls Tryz.prog 13 #[.agg #[.int .i64 t.step,.int .i64 t.width,.int .i64 t.height,p3,p4],.agg #[.int .i64 t.step,.int .i64 t.width,.int .i64 t.height,q3,q4]] W fun e w'=>e=.returned (.bool true)∧Below W.heap.size W w'):=fun W p3 p4 q3 q4 hW hr e3 e4=>by
  subst e3 e4;have hzW:=hW.size;exact eq_Terrain t _ _ _ _ W.heap.size W (((out3_10.out.below iut3 (by omega) hW).rd iut3).mono (by omega)) hr.2.2.2.1 (((out4_10.out.below iut4 (by omega) hW).rd iut4).mono (by omega)) hr.2.2.2.2.1 (Nat.le_refl _) (by omega)
 go_region_held3 (fun W=>W.cell? ⟨w6.heap.size,0,none⟩=some (.int .i64 t.step)∧W.cell? ⟨w6.heap.size,1,none⟩=some (.int .i64 t.width)∧W.cell? ⟨w6.heap.size,2,none⟩=some (.int .i64 t.height)∧W.cell? ⟨w6.heap.size,3,none⟩=some (.slice aut3 t.heights.length cut3)∧W.cell? ⟨w6.heap.size,4,none⟩=some (.slice aut4 t.clutter.length cut4)∧W.cell? ⟨w.heap.size,0,none⟩=some (.int .i64 t.step)∧W.cell? ⟨w.heap.size,1,none⟩=some (.int .i64 t.width)∧W.cell? ⟨w.heap.size,2,none⟩=some (.int .i64 t.height)∧W.cell? ⟨w.heap.size,3,none⟩=some (vt3)∧W.cell? ⟨w.heap.size,4,none⟩=some (vt4)) (first|exact hcf|(refine⟨?_,?_,?_,?_,?_,?_,?_,?_,?_,?_⟩<;>simp[go_sem, *]))
  (first
   | (go_at_call 9;refine (HTO.out).mono ?_;rintro e wt ⟨at3,ct3,at4,ct4,ft,rfl,hbt,ovt,ivt⟩;obtain⟨qUt,_,yUt⟩:=zad hbt (b:=w6.heap.size) (by show w6.heap.size<w10.heap.size;omega);obtain⟨qAt,_,yAt⟩:=zad hbt (b:=w.heap.size) (by show w.heap.size<w10.heap.size;omega))
   | (go_at_call 13;refine (HEQ.out _ _ _ _ _ (hsame.trans hbt) (ovt.rd ivt) rfl rfl).mono ?_;rintro e w11 ⟨rfl,hbe⟩;obtain⟨qUe,_,yUe⟩:=zad hbe (b:=w6.heap.size) yUt;obtain⟨qAe,_,yAe⟩:=zad hbe (b:=w.heap.size) yAt))
 have hb11:Below w10.heap.size w10 w11:=(hsame.trans hbt).trans (hbe.mono (hsame.trans hbt).size);clear HEQ HTO BBd hcf qUt qAt qUe qAe yUt yAt yUe yAe hbe hbt ovt ivt hsame;have hbb11:Below w10.heap.size w10 w11:=hb11;have z11:=hbb11.size;obtain⟨qAt11,_,yAt11⟩:=zad hb11 (b:=w.heap.size) (by first|omega|(simp;done)|(simp<;>omega))
 (try clear yAt10)
 obtain⟨qAnw11,_,yAnw11⟩:=zad hb11 (b:=w.heap.size+1) (by first|omega|(simp;done)|(simp<;>omega))
 (try clear yAnw10)
 obtain⟨qAp11,_,yAp11⟩:=zad hb11 (b:=w.heap.size+1+1) (by first|omega|(simp;done)|(simp<;>omega))
 (try clear yAp10)
 obtain⟨qUt11,_,yUt11⟩:=zad hb11 (b:=w6.heap.size) (by first|omega|(simp;done)|(simp<;>omega))
 (try clear yUt10)
 obtain⟨qUnw11,_,yUnw11⟩:=zad hb11 (b:=w7.heap.size) (by first|omega|(simp;done)|(simp<;>omega))
 (try clear yUnw10)
 have BB11:=Lib.hid (BB10.out.trans (hbb11.mono (by omega)));have os00_11:=Lib.hid (os00_10.out.below is00 (by omega) hbb11);have out3_11:=Lib.hid (out3_10.out.below iut3 (by omega) hbb11);have out4_11:=Lib.hid (out4_10.out.below iut4 (by omega) hbb11);have ounw0_11:=Lib.hid (ounw0_10.out.below iunw0 (by omega) hbb11);have ounw1_11:=Lib.hid (ounw1_10.out.below iunw1 (by omega) hbb11);have ounw2_11:=Lib.hid (ounw2_10.out.below iunw2 (by omega) hbb11);have ounw3_11:=Lib.hid (ounw3_10.out.below iunw3 (by omega) hbb11);have oubs0_11:=Lib.hid (oubs0_10.out.below iubs0 (by omega) hbb11);have og00_11:=Lib.hid (og00_10.out.below ig00 (by omega) hbb11);clear hbb11;have hcf:w11.cell? ⟨w7.heap.size,0,none⟩=some (.slice aunw0 nw.sites.length cunw0)∧w11.cell? ⟨w7.heap.size,1,none⟩=some (.slice aunw1 nw.sectors.length cunw1)∧w11.cell? ⟨w7.heap.size,2,none⟩=some (.slice aunw2 nw.antennas.length cunw2)∧w11.cell? ⟨w7.heap.size,3,none⟩=some (.slice aunw3 nw.radios.length cunw3)∧w11.cell? ⟨w.heap.size+1,0,none⟩=some (vnw0)∧w11.cell? ⟨w.heap.size+1,1,none⟩=some (vnw1)∧w11.cell? ⟨w.heap.size+1,2,none⟩=some (vnw2)∧w11.cell? ⟨w.heap.size+1,3,none⟩=some (vnw3):=by refine⟨?_,?_,?_,?_,?_,?_,?_,?_⟩<;>simp[go_sem, *]
 go_wp2;have hsame:Below w11.heap.size w11 w11.drew:=⟨rfl,rfl,rfl,Nat.le_refl _,fun _ _=>rfl⟩
 have BBd:=Lib.hid BB11.out.drew;have HTO:=Lib.hid (zdq nw vnw0 vnw1 vnw2 vnw3 w11.drew ((Hnw0.out.below BBd.out).mono (by show w.heap.size≤w11.heap.size;omega)) ((Hnw1.out.below BBd.out).mono (by show w.heap.size≤w11.heap.size;omega)) ((Hnw2.out.below BBd.out).mono (by show w.heap.size≤w11.heap.size;omega)) ((Hnw3.out.below BBd.out).mono (by show w.heap.size≤w11.heap.size;omega)) (by omega));have HEQ:Hid (∀ (W:World) (p0 p1 p2 p3 q0 q1 q2 q3:Value),Below w11.heap.size w11 W→RdV W.heap.size W nw.tr [q0,q1,q2,q3]→p0=.slice aunw0 nw.sites.length cunw0→p1=.slice aunw1 nw.sectors.length cunw1→p2=.slice aunw2 nw.antennas.length cunw2→p3=.slice aunw3 nw.radios.length cunw3→Calls Tryz.prog 14 #[.agg #[p0,p1,p2,p3],.agg #[q0,q1,q2,q3]] W fun e w'=>e=.returned (.bool true)∧Below W.heap.size W w'):=fun W p0 p1 p2 p3 q0 q1 q2 q3 hW hr e0 e1 e2 e3=>by
  subst e0 e1 e2 e3;have hzW:=hW.size;exact eq_Network nw _ _ _ _ _ _ _ _ W.heap.size W (((ounw0_11.out.below iunw0 (by omega) hW).rd iunw0).mono (by omega)) hr.1 (((ounw1_11.out.below iunw1 (by omega) hW).rd iunw1).mono (by omega)) hr.2.1 (((ounw2_11.out.below iunw2 (by omega) hW).rd iunw2).mono (by omega)) hr.2.2.1 (((ounw3_11.out.below iunw3 (by omega) hW).rd iunw3).mono (by omega)) hr.2.2.2.1 (Nat.le_refl _) (by omega)
 go_region_held3 (fun W=>W.cell? ⟨w7.heap.size,0,none⟩=some (.slice aunw0 nw.sites.length cunw0)∧W.cell? ⟨w7.heap.size,1,none⟩=some (.slice aunw1 nw.sectors.length cunw1)∧W.cell? ⟨w7.heap.size,2,none⟩=some (.slice aunw2 nw.antennas.length cunw2)∧W.cell? ⟨w7.heap.size,3,none⟩=some (.slice aunw3 nw.radios.length cunw3)∧W.cell? ⟨w.heap.size+1,0,none⟩=some (vnw0)∧W.cell? ⟨w.heap.size+1,1,none⟩=some (vnw1)∧W.cell? ⟨w.heap.size+1,2,none⟩=some (vnw2)∧W.cell? ⟨w.heap.size+1,3,none⟩=some (vnw3)) (first|exact hcf|(refine⟨?_,?_,?_,?_,?_,?_,?_,?_⟩<;>simp[go_sem, *]))
  (first
   | (go_at_call 10;refine (HTO.out).mono ?_;rintro e wt ⟨at0,ct0,at1,ct1,at2,ct2,at3,ct3,ft,rfl,hbt,ovt,ivt⟩;obtain⟨qUt,_,yUt⟩:=zad hbt (b:=w7.heap.size) (by show w7.heap.size<w11.heap.size;omega);obtain⟨qAt,_,yAt⟩:=zad hbt (b:=w.heap.size+1) (by show w.heap.size+1<w11.heap.size;omega))
   | (go_at_call 14;refine (HEQ.out _ _ _ _ _ _ _ _ _ (hsame.trans hbt) (ovt.rd ivt) rfl rfl rfl rfl).mono ?_;rintro e w12 ⟨rfl,hbe⟩;obtain⟨qUe,_,yUe⟩:=zad hbe (b:=w7.heap.size) yUt;obtain⟨qAe,_,yAe⟩:=zad hbe (b:=w.heap.size+1) yAt))
 have hb12:Below w11.heap.size w11 w12:=(hsame.trans hbt).trans (hbe.mono (hsame.trans hbt).size);clear HEQ HTO BBd hcf qUt qAt qUe qAe yUt yAt yUe yAe hbe hbt ovt ivt hsame;have hbb12:Below w11.heap.size w11 w12:=hb12;have z12:=hbb12.size;obtain⟨qAt12,_,yAt12⟩:=zad hb12 (b:=w.heap.size) (by first|omega|(simp;done)|(simp<;>omega))
 (try clear yAt11)
 obtain⟨qAnw12,_,yAnw12⟩:=zad hb12 (b:=w.heap.size+1) (by first|omega|(simp;done)|(simp<;>omega))
 (try clear yAnw11)
 obtain⟨qAp12,_,yAp12⟩:=zad hb12 (b:=w.heap.size+1+1) (by first|omega|(simp;done)|(simp<;>omega))
 (try clear yAp11)
 obtain⟨qUt12,_,yUt12⟩:=zad hb12 (b:=w6.heap.size) (by first|omega|(simp;done)|(simp<;>omega))
 (try clear yUt11)
 obtain⟨qUnw12,_,yUnw12⟩:=zad hb12 (b:=w7.heap.size) (by first|omega|(simp;done)|(simp<;>omega))
 (try clear yUnw11)
 have BB12:=Lib.hid (BB11.out.trans (hbb12.mono (by omega)));have os00_12:=Lib.hid (os00_11.out.below is00 (by omega) hbb12);have out3_12:=Lib.hid (out3_11.out.below iut3 (by omega) hbb12);have out4_12:=Lib.hid (out4_11.out.below iut4 (by omega) hbb12);have ounw0_12:=Lib.hid (ounw0_11.out.below iunw0 (by omega) hbb12);have ounw1_12:=Lib.hid (ounw1_11.out.below iunw1 (by omega) hbb12);have ounw2_12:=Lib.hid (ounw2_11.out.below iunw2 (by omega) hbb12);have ounw3_12:=Lib.hid (ounw3_11.out.below iunw3 (by omega) hbb12);have oubs0_12:=Lib.hid (oubs0_11.out.below iubs0 (by omega) hbb12);have og00_12:=Lib.hid (og00_11.out.below ig00 (by omega) hbb12);clear hbb12;go_wp2_with fail;have BX13:Hid (Below w.heap.size w w12):=BB12.out;have zx13:=BX13.out.size
 (try clear zx8)
 refine (ze8 bs _ _ ((Hbs0.out.below BX13.out).mono zx13) (by omega)).mono ?_;rintro e w13 ⟨anbs0,cnbs0,fnbs0,rfl,hb13,ov13,iqnbs0⟩;have inbs0:=iqnbs0.mono (lo':=w12.heap.size+0) (by first|omega|(simp;done)|(simp<;>omega)) (Nat.le_refl _);clear iqnbs0;have hbb13:Below w12.heap.size w12 w13:=hb13;have z13:=hbb13.size;obtain⟨qAt13,_,yAt13⟩:=zad hb13 (b:=w.heap.size) (by first|omega|(simp;done)|(simp<;>omega))
 (try clear yAt12)
 obtain⟨qAnw13,_,yAnw13⟩:=zad hb13 (b:=w.heap.size+1) (by first|omega|(simp;done)|(simp<;>omega))
 (try clear yAnw12)
 obtain⟨qAp13,_,yAp13⟩:=zad hb13 (b:=w.heap.size+1+1) (by first|omega|(simp;done)|(simp<;>omega))
 (try clear yAp12)
 obtain⟨qUt13,_,yUt13⟩:=zad hb13 (b:=w6.heap.size) (by first|omega|(simp;done)|(simp<;>omega))
 (try clear yUt12)
 obtain⟨qUnw13,_,yUnw13⟩:=zad hb13 (b:=w7.heap.size) (by first|omega|(simp;done)|(simp<;>omega))
 (try clear yUnw12)
 have BB13:=Lib.hid (BB12.out.trans (hbb13.mono (by omega)));have os00_13:=Lib.hid (os00_12.out.below is00 (by omega) hbb13);have out3_13:=Lib.hid (out3_12.out.below iut3 (by omega) hbb13);have out4_13:=Lib.hid (out4_12.out.below iut4 (by omega) hbb13);have ounw0_13:=Lib.hid (ounw0_12.out.below iunw0 (by omega) hbb13);have ounw1_13:=Lib.hid (ounw1_12.out.below iunw1 (by omega) hbb13);have ounw2_13:=Lib.hid (ounw2_12.out.below iunw2 (by omega) hbb13);have ounw3_13:=Lib.hid (ounw3_12.out.below iunw3 (by omega) hbb13);have oubs0_13:=Lib.hid (oubs0_12.out.below iubs0 (by omega) hbb13);have og00_13:=Lib.hid (og00_12.out.below ig00 (by omega) hbb13);clear hbb13;have onbs0_13:=Lib.hid ov13;clear ov13;go_wp2_with fail;refine ((eq_BandS bs _ _ w13.heap.size _ ((oubs0_13.out.rd iubs0).mono (by omega)) ((onbs0_13.out.rd inbs0).mono (by omega)) (Nat.le_refl _) (by omega))).mono ?_;rintro e w14 ⟨rfl,hb14⟩;have hbb14:Below w13.heap.size w13 w14:=hb14;have z14:=hbb14.size;obtain⟨qAt14,_,yAt14⟩:=zad hb14 (b:=w.heap.size) (by first|omega|(simp;done)|(simp<;>omega))
 (try clear yAt13)
 obtain⟨qAnw14,_,yAnw14⟩:=zad hb14 (b:=w.heap.size+1) (by first|omega|(simp;done)|(simp<;>omega))
 (try clear yAnw13)
 obtain⟨qAp14,_,yAp14⟩:=zad hb14 (b:=w.heap.size+1+1) (by first|omega|(simp;done)|(simp<;>omega))
 (try clear yAp13)
 obtain⟨qUt14,_,yUt14⟩:=zad hb14 (b:=w6.heap.size) (by first|omega|(simp;done)|(simp<;>omega))
 (try clear yUt13)
 obtain⟨qUnw14,_,yUnw14⟩:=zad hb14 (b:=w7.heap.size) (by first|omega|(simp;done)|(simp<;>omega))
 (try clear yUnw13)
 have BB14:=Lib.hid (BB13.out.trans (hbb14.mono (by omega)));have os00_14:=Lib.hid (os00_13.out.below is00 (by omega) hbb14);have out3_14:=Lib.hid (out3_13.out.below iut3 (by omega) hbb14);have out4_14:=Lib.hid (out4_13.out.below iut4 (by omega) hbb14);have ounw0_14:=Lib.hid (ounw0_13.out.below iunw0 (by omega) hbb14);have ounw1_14:=Lib.hid (ounw1_13.out.below iunw1 (by omega) hbb14);have ounw2_14:=Lib.hid (ounw2_13.out.below iunw2 (by omega) hbb14);have ounw3_14:=Lib.hid (ounw3_13.out.below iunw3 (by omega) hbb14);have oubs0_14:=Lib.hid (oubs0_13.out.below iubs0 (by omega) hbb14);have og00_14:=Lib.hid (og00_13.out.below ig00 (by omega) hbb14);have onbs0_14:=Lib.hid (onbs0_13.out.below inbs0 (by omega) hbb14);clear hbb14;go_wp2_with fail;refine ((mark_Terrain t _ _ g6_3 g6_4 (1) _ _ _ _ _ out3_14.out iut3 (by first|omega|(simp;done)|(simp<;>omega)) out4_14.out iut4 (by first|omega|(simp;done)|(simp<;>omega)) djut3_4 (by omega) (by omega) (by omega))).mono ?_;rintro e w15 ⟨rfl,mut3,mut4,hc15⟩;have hcc15:Chg (g6_3++g6_4) w14 w15:=hc15;have z15:=hcc15.size;have hkAt15:=hc15.block (w.heap.size) (by first|omega|(simp;done)|(simp<;>omega)) (fun e=>by simp only[List.mem_append] at e;rcases e with (e|e)<;>first|(have h2:=iut3 _ e;omega)|(have h2:=iut4 _ e;omega));have qAt15:∀ o,w15.cell? ⟨w.heap.size,o,none⟩=_:=fun o=>World.cell?_of_block (a:=⟨w.heap.size,o,none⟩) hkAt15
 have yAt15:w.heap.size<w15.heap.size:=by first|omega|(have:=hc15.size;simp at this;omega)
 (try clear yAt14)
 clear hkAt15;have hkAnw15:=hc15.block (w.heap.size+1) (by first|omega|(simp;done)|(simp<;>omega)) (fun e=>by simp only[List.mem_append] at e;rcases e with (e|e)<;>first|(have h2:=iut3 _ e;omega)|(have h2:=iut4 _ e;omega));have qAnw15:∀ o,w15.cell? ⟨w.heap.size+1,o,none⟩=_:=fun o=>World.cell?_of_block (a:=⟨w.heap.size+1,o,none⟩) hkAnw15
 have yAnw15:w.heap.size+1<w15.heap.size:=by first|omega|(have:=hc15.size;simp at this;omega)
 (try clear yAnw14)
 clear hkAnw15;have hkAp15:=hc15.block (w.heap.size+1+1) (by first|omega|(simp;done)|(simp<;>omega)) (fun e=>by simp only[List.mem_append] at e;rcases e with (e|e)<;>first|(have h2:=iut3 _ e;omega)|(have h2:=iut4 _ e;omega));have qAp15:∀ o,w15.cell? ⟨w.heap.size+1+1,o,none⟩=_:=fun o=>World.cell?_of_block (a:=⟨w.heap.size+1+1,o,none⟩) hkAp15
 have yAp15:w.heap.size+1+1<w15.heap.size:=by first|omega|(have:=hc15.size;simp at this;omega)
 (try clear yAp14)
 clear hkAp15;have hkUt15:=hc15.block (w6.heap.size) (by first|omega|(simp;done)|(simp<;>omega)) (fun e=>by simp only[List.mem_append] at e;rcases e with (e|e)<;>first|(have h2:=iut3 _ e;omega)|(have h2:=iut4 _ e;omega));have qUt15:∀ o,w15.cell? ⟨w6.heap.size,o,none⟩=_:=fun o=>World.cell?_of_block (a:=⟨w6.heap.size,o,none⟩) hkUt15
 have yUt15:w6.heap.size<w15.heap.size:=by first|omega|(have:=hc15.size;simp at this;omega)
 (try clear yUt14)
 clear hkUt15;have hkUnw15:=hc15.block (w7.heap.size) (by first|omega|(simp;done)|(simp<;>omega)) (fun e=>by simp only[List.mem_append] at e;rcases e with (e|e)<;>first|(have h2:=iut3 _ e;omega)|(have h2:=iut4 _ e;omega));have qUnw15:∀ o,w15.cell? ⟨w7.heap.size,o,none⟩=_:=fun o=>World.cell?_of_block (a:=⟨w7.heap.size,o,none⟩) hkUnw15
 have yUnw15:w7.heap.size<w15.heap.size:=by first|omega|(have:=hc15.size;simp at this;omega)
 (try clear yUnw14)
 clear hkUnw15;have BB15:=Lib.hid (BB14.out.trans (hcc15.below (by omega) (fun x hx=>by simp only[List.mem_append] at hx;rcases hx with (hx|hx)<;>first|(have h2:=iut3 x hx;omega)|(have h2:=iut4 x hx;omega))));have os00_15:=Lib.hid (os00_14.out.chg is00 (by omega) hcc15 (fun x hx e=>by have hx0:=is00 x hx;simp only[List.mem_append] at e;rcases e with (e|e)<;>first|(have h2:=iut3 x e;omega)|(have h2:=iut4 x e;omega)));have ounw0_15:=Lib.hid (ounw0_14.out.chg iunw0 (by omega) hcc15 (fun x hx e=>by have hx0:=iunw0 x hx;simp only[List.mem_append] at e;rcases e with (e|e)<;>first|(have h2:=iut3 x e;omega)|(have h2:=iut4 x e;omega)));have ounw1_15:=Lib.hid (ounw1_14.out.chg iunw1 (by omega) hcc15 (fun x hx e=>by have hx0:=iunw1 x hx;simp only[List.mem_append] at e;rcases e with (e|e)<;>first|(have h2:=iut3 x e;omega)|(have h2:=iut4 x e;omega)));have ounw2_15:=Lib.hid (ounw2_14.out.chg iunw2 (by omega) hcc15 (fun x hx e=>by have hx0:=iunw2 x hx;simp only[List.mem_append] at e;rcases e with (e|e)<;>first|(have h2:=iut3 x e;omega)|(have h2:=iut4 x e;omega)));have ounw3_15:=Lib.hid (ounw3_14.out.chg iunw3 (by omega) hcc15 (fun x hx e=>by have hx0:=iunw3 x hx;simp only[List.mem_append] at e;rcases e with (e|e)<;>first|(have h2:=iut3 x e;omega)|(have h2:=iut4 x e;omega)));have oubs0_15:=Lib.hid (oubs0_14.out.chg iubs0 (by omega) hcc15 (fun x hx e=>by have hx0:=iubs0 x hx;simp only[List.mem_append] at e;rcases e with (e|e)<;>first|(have h2:=iut3 x e;omega)|(have h2:=iut4 x e;omega)));have og00_15:=Lib.hid (og00_14.out.chg ig00 (by omega) hcc15 (fun x hx e=>by have hx0:=ig00 x hx;simp only[List.mem_append] at e;rcases e with (e|e)<;>first|(have h2:=iut3 x e;omega)|(have h2:=iut4 x e;omega)));clear hcc15;have kout3_15:=Lib.hid mut3;clear mut3;have kout4_15:=Lib.hid mut4;clear mut4;go_wp2_with fail;refine ((calls_cast (K':=((1+cnt (zaj t.heights)+cnt (zaj t.clutter):Nat):Int)) (by omega) (mark_Network nw _ _ _ _ g7_0 g7_1 g7_2 g7_3 (1+cnt (zaj t.heights)+cnt (zaj t.clutter)) _ _ _ _ _ _ _ _ _ ounw0_15.out iunw0 (by first|omega|(simp;done)|(simp<;>omega)) ounw1_15.out iunw1 (by first|omega|(simp;done)|(simp<;>omega)) ounw2_15.out iunw2 (by first|omega|(simp;done)|(simp<;>omega)) ounw3_15.out iunw3 (by first|omega|(simp;done)|(simp<;>omega)) djunw0_1 djunw0_2 djunw0_3 djunw1_2 djunw1_3 djunw2_3 (by omega) (by omega) (by omega)))).mono ?_;rintro e w16 ⟨rfl,munw0,munw1,munw2,munw3,hc16⟩;have hcc16:Chg (g7_0++g7_1++g7_2++g7_3) w15 w16:=hc16;have z16:=hcc16.size;have hkAt16:=hc16.block (w.heap.size) (by first|omega|(simp;done)|(simp<;>omega)) (fun e=>by simp only[List.mem_append] at e;rcases e with (((e|e)|e)|e)<;>first|(have h2:=iunw0 _ e;omega)|(have h2:=iunw1 _ e;omega)|(have h2:=iunw2 _ e;omega)|(have h2:=iunw3 _ e;omega));have qAt16:∀ o,w16.cell? ⟨w.heap.size,o,none⟩=_:=fun o=>World.cell?_of_block (a:=⟨w.heap.size,o,none⟩) hkAt16
 have yAt16:w.heap.size<w16.heap.size:=by first|omega|(have:=hc16.size;simp at this;omega)
 (try clear yAt15)
 clear hkAt16;have hkAnw16:=hc16.block (w.heap.size+1) (by first|omega|(simp;done)|(simp<;>omega)) (fun e=>by simp only[List.mem_append] at e;rcases e with (((e|e)|e)|e)<;>first|(have h2:=iunw0 _ e;omega)|(have h2:=iunw1 _ e;omega)|(have h2:=iunw2 _ e;omega)|(have h2:=iunw3 _ e;omega));have qAnw16:∀ o,w16.cell? ⟨w.heap.size+1,o,none⟩=_:=fun o=>World.cell?_of_block (a:=⟨w.heap.size+1,o,none⟩) hkAnw16
 have yAnw16:w.heap.size+1<w16.heap.size:=by first|omega|(have:=hc16.size;simp at this;omega)
 (try clear yAnw15)
 clear hkAnw16;have hkAp16:=hc16.block (w.heap.size+1+1) (by first|omega|(simp;done)|(simp<;>omega)) (fun e=>by simp only[List.mem_append] at e;rcases e with (((e|e)|e)|e)<;>first|(have h2:=iunw0 _ e;omega)|(have h2:=iunw1 _ e;omega)|(have h2:=iunw2 _ e;omega)|(have h2:=iunw3 _ e;omega));have qAp16:∀ o,w16.cell? ⟨w.heap.size+1+1,o,none⟩=_:=fun o=>World.cell?_of_block (a:=⟨w.heap.size+1+1,o,none⟩) hkAp16
 have yAp16:w.heap.size+1+1<w16.heap.size:=by first|omega|(have:=hc16.size;simp at this;omega)
 (try clear yAp15)
 clear hkAp16;have hkUt16:=hc16.block (w6.heap.size) (by first|omega|(simp;done)|(simp<;>omega)) (fun e=>by simp only[List.mem_append] at e;rcases e with (((e|e)|e)|e)<;>first|(have h2:=iunw0 _ e;omega)|(have h2:=iunw1 _ e;omega)|(have h2:=iunw2 _ e;omega)|(have h2:=iunw3 _ e;omega));have qUt16:∀ o,w16.cell? ⟨w6.heap.size,o,none⟩=_:=fun o=>World.cell?_of_block (a:=⟨w6.heap.size,o,none⟩) hkUt16
 have yUt16:w6.heap.size<w16.heap.size:=by first|omega|(have:=hc16.size;simp at this;omega)
 (try clear yUt15)
 clear hkUt16;have hkUnw16:=hc16.block (w7.heap.size) (by first|omega|(simp;done)|(simp<;>omega)) (fun e=>by simp only[List.mem_append] at e;rcases e with (((e|e)|e)|e)<;>first|(have h2:=iunw0 _ e;omega)|(have h2:=iunw1 _ e;omega)|(have h2:=iunw2 _ e;omega)|(have h2:=iunw3 _ e;omega));have qUnw16:∀ o,w16.cell? ⟨w7.heap.size,o,none⟩=_:=fun o=>World.cell?_of_block (a:=⟨w7.heap.size,o,none⟩) hkUnw16
 have yUnw16:w7.heap.size<w16.heap.size:=by first|omega|(have:=hc16.size;simp at this;omega)
 (try clear yUnw15)
 clear hkUnw16;have BB16:=Lib.hid (BB15.out.trans (hcc16.below (by omega) (fun x hx=>by simp only[List.mem_append] at hx;rcases hx with (((hx|hx)|hx)|hx)<;>first|(have h2:=iunw0 x hx;omega)|(have h2:=iunw1 x hx;omega)|(have h2:=iunw2 x hx;omega)|(have h2:=iunw3 x hx;omega))));have os00_16:=Lib.hid (os00_15.out.chg is00 (by omega) hcc16 (fun x hx e=>by have hx0:=is00 x hx;simp only[List.mem_append] at e;rcases e with (((e|e)|e)|e)<;>first|(have h2:=iunw0 x e;omega)|(have h2:=iunw1 x e;omega)|(have h2:=iunw2 x e;omega)|(have h2:=iunw3 x e;omega)));have oubs0_16:=Lib.hid (oubs0_15.out.chg iubs0 (by omega) hcc16 (fun x hx e=>by have hx0:=iubs0 x hx;simp only[List.mem_append] at e;rcases e with (((e|e)|e)|e)<;>first|(have h2:=iunw0 x e;omega)|(have h2:=iunw1 x e;omega)|(have h2:=iunw2 x e;omega)|(have h2:=iunw3 x e;omega)));have og00_16:=Lib.hid (og00_15.out.chg ig00 (by omega) hcc16 (fun x hx e=>by have hx0:=ig00 x hx;simp only[List.mem_append] at e;rcases e with (((e|e)|e)|e)<;>first|(have h2:=iunw0 x e;omega)|(have h2:=iunw1 x e;omega)|(have h2:=iunw2 x e;omega)|(have h2:=iunw3 x e;omega)));clear hcc16;have kounw0_16:=Lib.hid munw0;clear munw0;have kounw1_16:=Lib.hid munw1;clear munw1;have kounw2_16:=Lib.hid munw2;clear munw2;have kounw3_16:=Lib.hid munw3;clear munw3;go_wp2_with fail;refine ((calls_cast (K':=((1+cnt (zaj t.heights)+cnt (zaj t.clutter)+cnt (DSite.sT nw.sites)+cnt (DSector.sT nw.sectors)+cnt (DAntenna.sT nw.antennas)+cnt (DRadio.sT nw.radios):Nat):Int)) (by omega) (mark_BandS bs _ fubs0 (1+cnt (zaj t.heights)+cnt (zaj t.clutter)+cnt (DSite.sT nw.sites)+cnt (DSector.sT nw.sectors)+cnt (DAntenna.sT nw.antennas)+cnt (DRadio.sT nw.radios)) _ _ oubs0_16.out (iubs0.mono (Nat.le_refl _) (by first|omega|(simp;done)|(simp<;>omega))) (by omega) (by omega) (by omega)))).mono ?_;rintro e w17 ⟨rfl,mubs0,hc17⟩;have hcc17:Chg fubs0 w16 w17:=hc17;have z17:=hcc17.size;have hkAt17:=hc17.block (w.heap.size) (by first|omega|(simp;done)|(simp<;>omega)) (fun e=>by have h2:=iubs0 _ e;omega);have qAt17:∀ o,w17.cell? ⟨w.heap.size,o,none⟩=_:=fun o=>World.cell?_of_block (a:=⟨w.heap.size,o,none⟩) hkAt17
 have yAt17:w.heap.size<w17.heap.size:=by first|omega|(have:=hc17.size;simp at this;omega)
 (try clear yAt16)
 clear hkAt17;have hkAnw17:=hc17.block (w.heap.size+1) (by first|omega|(simp;done)|(simp<;>omega)) (fun e=>by have h2:=iubs0 _ e;omega);have qAnw17:∀ o,w17.cell? ⟨w.heap.size+1,o,none⟩=_:=fun o=>World.cell?_of_block (a:=⟨w.heap.size+1,o,none⟩) hkAnw17
 have yAnw17:w.heap.size+1<w17.heap.size:=by first|omega|(have:=hc17.size;simp at this;omega)
 (try clear yAnw16)
 clear hkAnw17;have hkAp17:=hc17.block (w.heap.size+1+1) (by first|omega|(simp;done)|(simp<;>omega)) (fun e=>by have h2:=iubs0 _ e;omega);have qAp17:∀ o,w17.cell? ⟨w.heap.size+1+1,o,none⟩=_:=fun o=>World.cell?_of_block (a:=⟨w.heap.size+1+1,o,none⟩) hkAp17
 have yAp17:w.heap.size+1+1<w17.heap.size:=by first|omega|(have:=hc17.size;simp at this;omega)
 (try clear yAp16)
 clear hkAp17;have hkUt17:=hc17.block (w6.heap.size) (by first|omega|(simp;done)|(simp<;>omega)) (fun e=>by have h2:=iubs0 _ e;omega);have qUt17:∀ o,w17.cell? ⟨w6.heap.size,o,none⟩=_:=fun o=>World.cell?_of_block (a:=⟨w6.heap.size,o,none⟩) hkUt17
 have yUt17:w6.heap.size<w17.heap.size:=by first|omega|(have:=hc17.size;simp at this;omega)
 (try clear yUt16)
 clear hkUt17;have hkUnw17:=hc17.block (w7.heap.size) (by first|omega|(simp;done)|(simp<;>omega)) (fun e=>by have h2:=iubs0 _ e;omega);have qUnw17:∀ o,w17.cell? ⟨w7.heap.size,o,none⟩=_:=fun o=>World.cell?_of_block (a:=⟨w7.heap.size,o,none⟩) hkUnw17
 have yUnw17:w7.heap.size<w17.heap.size:=by first|omega|(have:=hc17.size;simp at this;omega)
 (try clear yUnw16)
 clear hkUnw17;have BB17:=Lib.hid (BB16.out.trans (hcc17.below (by omega) (fun x hx=>by have h2:=iubs0 x hx;omega)));have os00_17:=Lib.hid (os00_16.out.chg is00 (by omega) hcc17 (fun x hx e=>by have hx0:=is00 x hx;have h2:=iubs0 x e;omega));have og00_17:=Lib.hid (og00_16.out.chg ig00 (by omega) hcc17 (fun x hx e=>by have hx0:=ig00 x hx;have h2:=iubs0 x e;omega));clear hcc17;have koubs0_17:=Lib.hid mubs0;clear mubs0;have kd17:decide (((1+cnt (zaj t.heights)+cnt (zaj t.clutter)+cnt (DSite.sT nw.sites)+cnt (DSector.sT nw.sectors)+cnt (DAntenna.sT nw.antennas)+cnt (DRadio.sT nw.radios)+cnt (DBand.sT bs):Nat):Int)<0)=false:=by simp<;>omega
 go_wp2_with fail;refine ((eq_StringS R.1 _ _ w17.heap.size _ ((og00_17.out.rd ig00).mono (by omega)) ((os00_17.out.rd is00).mono (by omega)) (Nat.le_refl _) (by omega))).mono ?_;rintro e w18 ⟨rfl,hb18⟩;have hbb18:Below w17.heap.size w17 w18:=hb18;have z18:=hbb18.size;obtain⟨qAt18,_,yAt18⟩:=zad hb18 (b:=w.heap.size) (by first|omega|(simp;done)|(simp<;>omega))
 (try clear yAt17)
 obtain⟨qAnw18,_,yAnw18⟩:=zad hb18 (b:=w.heap.size+1) (by first|omega|(simp;done)|(simp<;>omega))
 (try clear yAnw17)
 obtain⟨qAp18,_,yAp18⟩:=zad hb18 (b:=w.heap.size+1+1) (by first|omega|(simp;done)|(simp<;>omega))
 (try clear yAp17)
 obtain⟨qUt18,_,yUt18⟩:=zad hb18 (b:=w6.heap.size) (by first|omega|(simp;done)|(simp<;>omega))
 (try clear yUt17)
 obtain⟨qUnw18,_,yUnw18⟩:=zad hb18 (b:=w7.heap.size) (by first|omega|(simp;done)|(simp<;>omega))
 (try clear yUnw17)
 have BB18:=Lib.hid (BB17.out.trans (hbb18.mono (by omega)));have os00_18:=Lib.hid (os00_17.out.below is00 (by omega) hbb18);have og00_18:=Lib.hid (og00_17.out.below ig00 (by omega) hbb18);clear hbb18;go_wp2_with fail;refine ((mark_StringS R.1 _ fg00 (1) _ _ og00_18.out (ig00.mono (Nat.le_refl _) (by first|omega|(simp;done)|(simp<;>omega))) (by omega) (by omega) (by omega))).mono ?_;rintro e w19 ⟨rfl,mg00,hc19⟩;have hcc19:Chg fg00 w18 w19:=hc19;have z19:=hcc19.size;have hkAt19:=hc19.block (w.heap.size) (by first|omega|(simp;done)|(simp<;>omega)) (fun e=>by have h2:=ig00 _ e;omega);have qAt19:∀ o,w19.cell? ⟨w.heap.size,o,none⟩=_:=fun o=>World.cell?_of_block (a:=⟨w.heap.size,o,none⟩) hkAt19
 have yAt19:w.heap.size<w19.heap.size:=by first|omega|(have:=hc19.size;simp at this;omega)
 (try clear yAt18)
 clear hkAt19;have hkAnw19:=hc19.block (w.heap.size+1) (by first|omega|(simp;done)|(simp<;>omega)) (fun e=>by have h2:=ig00 _ e;omega);have qAnw19:∀ o,w19.cell? ⟨w.heap.size+1,o,none⟩=_:=fun o=>World.cell?_of_block (a:=⟨w.heap.size+1,o,none⟩) hkAnw19
 have yAnw19:w.heap.size+1<w19.heap.size:=by first|omega|(have:=hc19.size;simp at this;omega)
 (try clear yAnw18)
 clear hkAnw19;have hkAp19:=hc19.block (w.heap.size+1+1) (by first|omega|(simp;done)|(simp<;>omega)) (fun e=>by have h2:=ig00 _ e;omega);have qAp19:∀ o,w19.cell? ⟨w.heap.size+1+1,o,none⟩=_:=fun o=>World.cell?_of_block (a:=⟨w.heap.size+1+1,o,none⟩) hkAp19
 have yAp19:w.heap.size+1+1<w19.heap.size:=by first|omega|(have:=hc19.size;simp at this;omega)
 (try clear yAp18)
 clear hkAp19;have hkUt19:=hc19.block (w6.heap.size) (by first|omega|(simp;done)|(simp<;>omega)) (fun e=>by have h2:=ig00 _ e;omega);have qUt19:∀ o,w19.cell? ⟨w6.heap.size,o,none⟩=_:=fun o=>World.cell?_of_block (a:=⟨w6.heap.size,o,none⟩) hkUt19
 have yUt19:w6.heap.size<w19.heap.size:=by first|omega|(have:=hc19.size;simp at this;omega)
 (try clear yUt18)
 clear hkUt19;have hkUnw19:=hc19.block (w7.heap.size) (by first|omega|(simp;done)|(simp<;>omega)) (fun e=>by have h2:=ig00 _ e;omega);have qUnw19:∀ o,w19.cell? ⟨w7.heap.size,o,none⟩=_:=fun o=>World.cell?_of_block (a:=⟨w7.heap.size,o,none⟩) hkUnw19
 have yUnw19:w7.heap.size<w19.heap.size:=by first|omega|(have:=hc19.size;simp at this;omega)
 (try clear yUnw18)
 clear hkUnw19;have BB19:=Lib.hid (BB18.out.trans (hcc19.below (by omega) (fun x hx=>by have h2:=ig00 x hx;omega)));have os00_19:=Lib.hid (os00_18.out.chg is00 (by omega) hcc19 (fun x hx e=>by have hx0:=is00 x hx;have h2:=ig00 x e;omega));clear hcc19;have kog00_19:=Lib.hid mg00;clear mg00;go_wp2_with fail;refine (held_StringS R.1 _ w19.heap.size (1) _ ((kog00_19.out.rd ig00).mono (by omega)) (Nat.le_refl _) (by omega) (by omega) (by omega)).mono ?_;rintro e w20 ⟨rfl,hb20⟩;have hbb20:Below w19.heap.size w19 w20:=hb20;have z20:=hbb20.size;obtain⟨qAt20,_,yAt20⟩:=zad hb20 (b:=w.heap.size) (by first|omega|(simp;done)|(simp<;>omega))
 (try clear yAt19)
 obtain⟨qAnw20,_,yAnw20⟩:=zad hb20 (b:=w.heap.size+1) (by first|omega|(simp;done)|(simp<;>omega))
 (try clear yAnw19)
 obtain⟨qAp20,_,yAp20⟩:=zad hb20 (b:=w.heap.size+1+1) (by first|omega|(simp;done)|(simp<;>omega))
 (try clear yAp19)
 obtain⟨qUt20,_,yUt20⟩:=zad hb20 (b:=w6.heap.size) (by first|omega|(simp;done)|(simp<;>omega))
 (try clear yUt19)
 obtain⟨qUnw20,_,yUnw20⟩:=zad hb20 (b:=w7.heap.size) (by first|omega|(simp;done)|(simp<;>omega))
 (try clear yUnw19)
 have BB20:=Lib.hid (BB19.out.trans (hbb20.mono (by omega)));have os00_20:=Lib.hid (os00_19.out.below is00 (by omega) hbb20);have kog00_20:=Lib.hid (kog00_19.out.below ig00 (by omega) hbb20);clear hbb20;go_wp2;have hcf:w20.cell? ⟨w.heap.size,0,none⟩=some (.int .i64 t.step)∧w20.cell? ⟨w.heap.size,1,none⟩=some (.int .i64 t.width)∧w20.cell? ⟨w.heap.size,2,none⟩=some (.int .i64 t.height)∧w20.cell? ⟨w.heap.size,3,none⟩=some (vt3)∧w20.cell? ⟨w.heap.size,4,none⟩=some (vt4)∧w20.cell? ⟨w.heap.size+1,0,none⟩=some (vnw0)∧w20.cell? ⟨w.heap.size+1,1,none⟩=some (vnw1)∧w20.cell? ⟨w.heap.size+1,2,none⟩=some (vnw2)∧w20.cell? ⟨w.heap.size+1,3,none⟩=some (vnw3)∧w20.cell? ⟨w.heap.size+1+1,0,none⟩=some (.string p.name)∧w20.cell? ⟨w.heap.size+1+1,1,none⟩=some (.int .i64 p.at_.place.x)∧w20.cell? ⟨w.heap.size+1+1,2,none⟩=some (.int .i64 p.at_.place.y)∧w20.cell? ⟨w.heap.size+1+1,3,none⟩=some (.int .i64 p.at_.above)∧w20.cell? ⟨w.heap.size+1+1,4,none⟩=some (.int .i64 p.low)∧w20.cell? ⟨w.heap.size+1+1,5,none⟩=some (.int .i64 p.high)∧w20.cell? ⟨w.heap.size+1+1,6,none⟩=some (.int .i64 p.limit):=by refine⟨?_,?_,?_,?_,?_,?_,?_,?_,?_,?_,?_,?_,?_,?_,?_,?_⟩<;>simp[go_sem, *]
 have HKB:Hid (∀ W:World,Below w20.heap.size w20 W→W.cell? ⟨w.heap.size,0,none⟩=some (.int .i64 t.step)∧W.cell? ⟨w.heap.size,1,none⟩=some (.int .i64 t.width)∧W.cell? ⟨w.heap.size,2,none⟩=some (.int .i64 t.height)∧W.cell? ⟨w.heap.size,3,none⟩=some (vt3)∧W.cell? ⟨w.heap.size,4,none⟩=some (vt4)∧W.cell? ⟨w.heap.size+1,0,none⟩=some (vnw0)∧W.cell? ⟨w.heap.size+1,1,none⟩=some (vnw1)∧W.cell? ⟨w.heap.size+1,2,none⟩=some (vnw2)∧W.cell? ⟨w.heap.size+1,3,none⟩=some (vnw3)∧W.cell? ⟨w.heap.size+1+1,0,none⟩=some (.string p.name)∧W.cell? ⟨w.heap.size+1+1,1,none⟩=some (.int .i64 p.at_.place.x)∧W.cell? ⟨w.heap.size+1+1,2,none⟩=some (.int .i64 p.at_.place.y)∧W.cell? ⟨w.heap.size+1+1,3,none⟩=some (.int .i64 p.at_.above)∧W.cell? ⟨w.heap.size+1+1,4,none⟩=some (.int .i64 p.low)∧W.cell? ⟨w.heap.size+1+1,5,none⟩=some (.int .i64 p.high)∧W.cell? ⟨w.heap.size+1+1,6,none⟩=some (.int .i64 p.limit)):=fun W hW=>by
  obtain⟨e0,e1,e2,e3,e4,e5,e6,e7,e8,e9,e10,e11,e12,e13,e14,e15⟩:=hcf;exact⟨(bat hW _ _ (by omega)).trans e0,(bat hW _ _ (by omega)).trans e1,(bat hW _ _ (by omega)).trans e2,(bat hW _ _ (by omega)).trans e3,(bat hW _ _ (by omega)).trans e4,(bat hW _ _ (by omega)).trans e5,(bat hW _ _ (by omega)).trans e6,(bat hW _ _ (by omega)).trans e7,(bat hW _ _ (by omega)).trans e8,(bat hW _ _ (by omega)).trans e9,(bat hW _ _ (by omega)).trans e10,(bat hW _ _ (by omega)).trans e11,(bat hW _ _ (by omega)).trans e12,(bat hW _ _ (by omega)).trans e13,(bat hW _ _ (by omega)).trans e14,(bat hW _ _ (by omega)).trans e15⟩
 clear hcf;have BBd:Hid (Below w20.heap.size w20 w20.drew):=(Below.refl _ _).drew;go_cut [20,21] (fun s0 s1 wx=>∃ (ah00:Option Addr) (ch00:Nat) (fh00:List Nat),s0=.slice ah00 R.1.length ch00∧s1=.int .i64 R.2∧Below w20.heap.size w20 wx∧Own wx (zd2 R.1) (.slice ah00 R.1.length ch00) fh00∧In w20.heap.size wx.heap.size fh00)
 case first =>
  refine zau 13 (.read 0 (.read 2 (.read 4 (.read 6 (.one 1 (.one 3 (.one 5 (.one 7 (.one 8 (.read 9 (.read 10 (.read 11 (.read 12 .nil))))))))))))) (fun W=>W.cell? ⟨w.heap.size,0,none⟩=some (.int .i64 t.step)∧W.cell? ⟨w.heap.size,1,none⟩=some (.int .i64 t.width)∧W.cell? ⟨w.heap.size,2,none⟩=some (.int .i64 t.height)∧W.cell? ⟨w.heap.size,3,none⟩=some (vt3)∧W.cell? ⟨w.heap.size,4,none⟩=some (vt4)∧W.cell? ⟨w.heap.size+1,0,none⟩=some (vnw0)∧W.cell? ⟨w.heap.size+1,1,none⟩=some (vnw1)∧W.cell? ⟨w.heap.size+1,2,none⟩=some (vnw2)∧W.cell? ⟨w.heap.size+1,3,none⟩=some (vnw3)∧W.cell? ⟨w.heap.size+1+1,0,none⟩=some (.string p.name)∧W.cell? ⟨w.heap.size+1+1,1,none⟩=some (.int .i64 p.at_.place.x)∧W.cell? ⟨w.heap.size+1+1,2,none⟩=some (.int .i64 p.at_.place.y)∧W.cell? ⟨w.heap.size+1+1,3,none⟩=some (.int .i64 p.at_.above)∧W.cell? ⟨w.heap.size+1+1,4,none⟩=some (.int .i64 p.low)∧W.cell? ⟨w.heap.size+1+1,5,none⟩=some (.int .i64 p.high)∧W.cell? ⟨w.heap.size+1+1,6,none⟩=some (.int .i64 p.limit)) (by kernel_rfl) (by kernel_rfl) (HKB.out _ BBd.out) ?_;have zd:w20.heap.size≤w20.drew.heap.size:=Nat.le_refl _;generalize w20.drew=Y at *;refine zag (v:=?_) rfl (fun _ _ _ h=>h) ?_ ?_
  rotate_left
  ·(intro W hSW;(try dsimp only at hSW);(go_simp<;>with_reducible rfl))
  (try simp only[Act.put,List.setIfInBounds_toArray,List.set_cons_zero,List.set_cons_succ])
  refine zag (v:=?_) rfl (fun _ _ _ h=>h) ?_ ?_
  rotate_left
  ·(intro W hSW;(try dsimp only at hSW);(go_simp<;>with_reducible rfl))
  (try simp only[Act.put,List.setIfInBounds_toArray,List.set_cons_zero,List.set_cons_succ])
  refine zag (v:=?_) rfl (fun _ _ _ h=>h) ?_ ?_
  rotate_left
  ·(intro W hSW;(try dsimp only at hSW);(go_simp<;>with_reducible rfl))
  (try simp only[Act.put,List.setIfInBounds_toArray,List.set_cons_zero,List.set_cons_succ])
  refine zag (v:=?_) rfl (fun _ _ _ h=>h) ?_ ?_
  rotate_left
  ·(intro W hSW;(try dsimp only at hSW);(go_simp<;>with_reducible rfl))
  (try simp only[Act.put,List.setIfInBounds_toArray,List.set_cons_zero,List.set_cons_succ])
  refine zaf ?_;refine zah rfl (fun K hK=>?_);go_simp;refine (zdo t _ _ _ ((Ht3.out.below (BB20.out.trans (BBd.out.mono (by omega)))).mono (by omega)) ((Ht4.out.below (BB20.out.trans (BBd.out.mono (by omega)))).mono (by omega)) (by omega)).mono ?_;rintro e Y1 ⟨att3,ctt3,att4,ctt4,ftt,rfl,hb1,ov1,iv1⟩;refine hK.out _ _ (HKB.out _ (BBd.out.trans (hb1.mono (by omega)))) ?_;clear hK K
  (try simp only[Act.put,List.setIfInBounds_toArray,List.set_cons_zero,List.set_cons_succ])
  have OT1:=Lib.hid ov1;have itt:=iv1;clear ov1 iv1;have bs1:Y.heap.size≤Y1.heap.size:=hb1.size;have BY1:=Lib.hid (BBd.out.trans (hb1.mono (by omega)));clear hb1;refine zaf ?_;refine zah rfl (fun K hK=>?_);go_simp;refine (zdq nw _ _ _ _ _ ((Hnw0.out.below (BB20.out.trans (BY1.out.mono (by omega)))).mono (by omega)) ((Hnw1.out.below (BB20.out.trans (BY1.out.mono (by omega)))).mono (by omega)) ((Hnw2.out.below (BB20.out.trans (BY1.out.mono (by omega)))).mono (by omega)) ((Hnw3.out.below (BB20.out.trans (BY1.out.mono (by omega)))).mono (by omega)) (by omega)).mono ?_;rintro e Y2 ⟨atnw0,ctnw0,atnw1,ctnw1,atnw2,ctnw2,atnw3,ctnw3,ftnw,rfl,hb2,ov2,iv2⟩;refine hK.out _ _ (HKB.out _ (BY1.out.trans (hb2.mono (by omega)))) ?_;clear hK K
  (try simp only[Act.put,List.setIfInBounds_toArray,List.set_cons_zero,List.set_cons_succ])
  have OT2:=Lib.hid ov2;have itnw:=iv2;clear ov2 iv2;have bs2:Y1.heap.size≤Y2.heap.size:=hb2.size;have BY2:=Lib.hid (BY1.out.trans (hb2.mono (by omega)));have OT2_t:=Lib.hid (OT1.out.below itt (by omega) hb2);clear hb2;refine zaf ?_;refine zah rfl (fun K hK=>?_);go_simp;refine (ze8 bs _ _ ((Hbs0.out.below (BB20.out.trans (BY2.out.mono (by omega)))).mono (by omega)) (by omega)).mono ?_;rintro e Y3 ⟨atbs0,ctbs0,ftbs,rfl,hb3,ov3,iv3⟩;refine hK.out _ _ (HKB.out _ (BY2.out.trans (hb3.mono (by omega)))) ?_;clear hK K
  (try simp only[Act.put,List.setIfInBounds_toArray,List.set_cons_zero,List.set_cons_succ])
  have OT3:=Lib.hid ov3;have itbs:=iv3;clear ov3 iv3;have bs3:Y2.heap.size≤Y3.heap.size:=hb3.size;have BY3:=Lib.hid (BY2.out.trans (hb3.mono (by omega)));have OT3_t:=Lib.hid (OT2_t.out.below itt (by omega) hb3);have OT3_nw:=Lib.hid (OT2.out.below itnw (by omega) hb3);clear hb3;refine zaf ?_;refine zah rfl (fun K hK=>?_);go_simp;refine (zdp p _).mono ?_;rintro e Y4 ⟨rfl,hb4⟩;refine hK.out _ _ (HKB.out _ (BY3.out.trans (hb4.mono (by omega)))) ?_;clear hK K
  (try simp only[Act.put,List.setIfInBounds_toArray,List.set_cons_zero,List.set_cons_succ])
  have bs4:Y3.heap.size≤Y4.heap.size:=hb4.size;have BY4:=Lib.hid (BY3.out.trans (hb4.mono (by omega)));have OT4_t:=Lib.hid (OT3_t.out.below itt (by omega) hb4);have OT4_nw:=Lib.hid (OT3_nw.out.below itnw (by omega) hb4);have OT4_bs:=Lib.hid (OT3.out.below itbs (by omega) hb4);clear hb4;refine zaf ?_;refine zah rfl (fun K hK=>?_);go_simp;refine (HI.out _ _ _ _ _ _ _ _ (HLL.out.mono (BB20.out.trans (BY4.out.mono (by omega)))) (((OT4_t.out.rd itt).2.2.2.1).mono (by omega)) (((OT4_t.out.rd itt).2.2.2.2.1).mono (by omega)) (((OT4_nw.out.rd itnw).1).mono (by omega)) (((OT4_nw.out.rd itnw).2.1).mono (by omega)) (((OT4_nw.out.rd itnw).2.2.1).mono (by omega)) (((OT4_nw.out.rd itnw).2.2.2.1).mono (by omega)) (((OT4_bs.out.rd itbs)).mono (by omega)) (by omega) (by omega) (by omega) (by omega)).mono ?_;rintro e Y5 ⟨ah00,ch00,fh00,rfl,hb5,ov5,iv5⟩;refine hK.out _ _ (HKB.out _ (BY4.out.trans (hb5.mono (by omega)))) ?_;clear hK K
  (try simp only[Act.put,List.setIfInBounds_toArray,List.set_cons_zero,List.set_cons_succ])
  have OR5:=Lib.hid ov5;have IR5:=Lib.hid iv5;clear ov5 iv5;have bs5:Y4.heap.size≤Y5.heap.size:=hb5.size;have BY5:=Lib.hid (BY4.out.trans (hb5.mono (by omega)));clear hb5;refine zag (v:=?_) rfl (fun _ _ _ h=>h) ?_ ?_
  rotate_left
  ·(intro W hSW;(try dsimp only at hSW);(go_simp<;>with_reducible rfl))
  (try simp only[Act.put,List.setIfInBounds_toArray,List.set_cons_zero,List.set_cons_succ])
  refine zag (v:=?_) rfl (fun _ _ _ h=>h) ?_ ?_
  rotate_left
  ·(intro W hSW;(try dsimp only at hSW);(go_simp<;>with_reducible rfl))
  (try simp only[Act.put,List.setIfInBounds_toArray,List.set_cons_zero,List.set_cons_succ])
  refine zag (v:=?_) rfl (fun _ _ _ h=>h) ?_ ?_
  rotate_left
  ·(intro W hSW;(try dsimp only at hSW);(go_simp<;>with_reducible rfl))
  (try simp only[Act.put,List.setIfInBounds_toArray,List.set_cons_zero,List.set_cons_succ])
  refine zag (v:=?_) rfl (fun _ _ _ h=>h) ?_ ?_
  rotate_left
  ·(intro W hSW;(try dsimp only at hSW);(go_simp<;>with_reducible rfl))
  (try simp only[Act.put,List.setIfInBounds_toArray,List.set_cons_zero,List.set_cons_succ])
  refine zas ?_;simp only[List.drop_succ_cons,List.drop_zero];go_wp2_with fail;go_meet;exact⟨_,_,_,rfl,rfl,BY5.out,OR5.out,IR5.out.mono (by omega) (Nat.le_refl _)⟩
 obtain⟨ah00,ch00,fh00,rfl,rfl,hb21,owh0,iwh0⟩:=hcut;generalize wc=w21 at *;clear HKB BBd;have hbb21:Below w20.heap.size w20 w21:=hb21;have z21:=hbb21.size;obtain⟨qAt21,_,yAt21⟩:=zad hb21 (b:=w.heap.size) (by first|omega|(simp;done)|(simp<;>omega))
 (try clear yAt20)
 obtain⟨qAnw21,_,yAnw21⟩:=zad hb21 (b:=w.heap.size+1) (by first|omega|(simp;done)|(simp<;>omega))
 (try clear yAnw20)
 obtain⟨qAp21,_,yAp21⟩:=zad hb21 (b:=w.heap.size+1+1) (by first|omega|(simp;done)|(simp<;>omega))
 (try clear yAp20)
 obtain⟨qUt21,_,yUt21⟩:=zad hb21 (b:=w6.heap.size) (by first|omega|(simp;done)|(simp<;>omega))
 (try clear yUt20)
 obtain⟨qUnw21,_,yUnw21⟩:=zad hb21 (b:=w7.heap.size) (by first|omega|(simp;done)|(simp<;>omega))
 (try clear yUnw20)
 have BB21:=Lib.hid (BB20.out.trans (hbb21.mono (by omega)));have os00_21:=Lib.hid (os00_20.out.below is00 (by omega) hbb21);have kog00_21:=Lib.hid (kog00_20.out.below ig00 (by omega) hbb21);clear hbb21;have ih00:=iwh0;have oh00_21:=Lib.hid owh0;clear iwh0 owh0;go_wp2_with fail;refine ((eq_StringS R.1 _ _ w21.heap.size _ ((oh00_21.out.rd ih00).mono (by omega)) ((os00_21.out.rd is00).mono (by omega)) (Nat.le_refl _) (by omega))).mono ?_;rintro e w22 ⟨rfl,hb22⟩;have hbb22:Below w21.heap.size w21 w22:=hb22;have z22:=hbb22.size;obtain⟨qAt22,_,yAt22⟩:=zad hb22 (b:=w.heap.size) (by first|omega|(simp;done)|(simp<;>omega))
 (try clear yAt21)
 obtain⟨qAnw22,_,yAnw22⟩:=zad hb22 (b:=w.heap.size+1) (by first|omega|(simp;done)|(simp<;>omega))
 (try clear yAnw21)
 obtain⟨qAp22,_,yAp22⟩:=zad hb22 (b:=w.heap.size+1+1) (by first|omega|(simp;done)|(simp<;>omega))
 (try clear yAp21)
 obtain⟨qUt22,_,yUt22⟩:=zad hb22 (b:=w6.heap.size) (by first|omega|(simp;done)|(simp<;>omega))
 (try clear yUt21)
 obtain⟨qUnw22,_,yUnw22⟩:=zad hb22 (b:=w7.heap.size) (by first|omega|(simp;done)|(simp<;>omega))
 (try clear yUnw21)
 have BB22:=Lib.hid (BB21.out.trans (hbb22.mono (by omega)));have os00_22:=Lib.hid (os00_21.out.below is00 (by omega) hbb22);have kog00_22:=Lib.hid (kog00_21.out.below ig00 (by omega) hbb22);have oh00_22:=Lib.hid (oh00_21.out.below ih00 (by omega) hbb22);clear hbb22;go_wp2_with fail;refine (held_StringS R.1 _ w22.heap.size (1) _ ((kog00_22.out.rd ig00).mono (by omega)) (Nat.le_refl _) (by omega) (by omega) (by omega)).mono ?_;rintro e w23 ⟨rfl,hb23⟩;have hbb23:Below w22.heap.size w22 w23:=hb23;have z23:=hbb23.size;obtain⟨qAt23,_,yAt23⟩:=zad hb23 (b:=w.heap.size) (by first|omega|(simp;done)|(simp<;>omega))
 (try clear yAt22)
 obtain⟨qAnw23,_,yAnw23⟩:=zad hb23 (b:=w.heap.size+1) (by first|omega|(simp;done)|(simp<;>omega))
 (try clear yAnw22)
 obtain⟨qAp23,_,yAp23⟩:=zad hb23 (b:=w.heap.size+1+1) (by first|omega|(simp;done)|(simp<;>omega))
 (try clear yAp22)
 obtain⟨qUt23,_,yUt23⟩:=zad hb23 (b:=w6.heap.size) (by first|omega|(simp;done)|(simp<;>omega))
 (try clear yUt22)
 obtain⟨qUnw23,_,yUnw23⟩:=zad hb23 (b:=w7.heap.size) (by first|omega|(simp;done)|(simp<;>omega))
 (try clear yUnw22)
 have BB23:=Lib.hid (BB22.out.trans (hbb23.mono (by omega)));have kog00_23:=Lib.hid (kog00_22.out.below ig00 (by omega) hbb23);clear hbb23;go_wp2;go_ret;exact⟨rfl,BB23.out⟩
end Go.Proofs.YtgmapjgodibchaaGreatDoor.fnExactExceedingSectors
