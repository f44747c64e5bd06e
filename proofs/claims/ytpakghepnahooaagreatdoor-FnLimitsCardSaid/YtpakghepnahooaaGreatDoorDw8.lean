/- Contracts: the bands and the protected place that the reference draws: some small ones. Condition: a place in the source that is not too great. -/
import Derived.Test.YtpakghepnahooaaGreatDoorDw6
import Derived.Deep.CutBlock
set_option linter.unusedVariables false
set_option linter.unusedSimpArgs false
namespace Go.Proofs.YtpakghepnahooaaGreatDoor
open Go.RowKit
set_option maxHeartbeats 8000000
set_option maxRecDepth 100000
theorem ze6 (x:Int):I64 (wrap64 x):=by
 unfold I64 wrap64;omega
def zeg:Array Value:=#[IQ ⟨#[]⟩,J 0,J 0,J 0,J 0]
def zed:Array Value:=#[IQ ⟨#[]⟩,J 0,J 0,J 0,J 0,J 0,J 0]
def BandW (x:DBand):Prop:=x.name.size≤20∧I64 x.low∧I64 x.high∧I64 x.raster∧I64 x.duplex
def DrBand (b k m:Nat) (w:World) (e:Ending) (w':World):Prop:=∃ x:DBand,BandW x∧e=.returned (.agg #[IQ x.name,J x.low,J x.high,J x.raster,J x.duplex])∧SrcQ b k m w w'
def PlaceW (x:DProtected):Prop:=x.name.size≤20∧(I64 x.at_.place.x∧I64 x.at_.place.y∧I64 x.at_.above)∧I64 x.low∧I64 x.high∧I64 x.limit
def DrProt (b k m:Nat) (w:World) (e:Ending) (w':World):Prop:=∃ x:DProtected,PlaceW x∧e=.returned (.agg #[IQ x.name,J x.at_.place.x,J x.at_.place.y,J x.at_.above,J x.low,J x.high,J x.limit])∧SrcQ b k m w w'
theorem l15DrawOk_any (b k:Nat) (w:World) (h:Src w b k) (hk:k≤1099511400000):Calls Tryz.prog 122 #[.pointer (some ⟨b,0,none⟩)] w (DrBand b k 14 w):=by
 have yb:=h.lt;have HS:=IJ h;clear h;go_enter Tryz.func122,Tryz.ntmps122;go_upto_region 1 with (fail);obtain⟨W0,hW0,b0,z0,k0⟩:=zav w zeg 102
 dsimp only[zeg] at hW0
 rw[hW0];clear hW0;have HS0:=IJ (HS.out.below HS.out.lt b0);have HC0:Hid (Chg [b] w W0):=Chg.of_below b0;have HK0:=IJ k0;clear b0 k0 HS;go_wp2_with (fail)
 go_at_call 125
 have BA:=zak W0 (.cells #[IQ ⟨#[98,57,48,48]⟩,IQ ⟨#[118,104,102]⟩,IQ ⟨#[117,104,102]⟩,IQ ⟨#[109,119]⟩] 9);refine (zd4 b k [⟨#[98,57,48,48]⟩,⟨#[118,104,102]⟩,⟨#[117,104,102]⟩,⟨#[109,119]⟩] W0.heap.size 4 _ (HS0.out.below HS0.out.lt BA) II II (by simp) (by simp) (LayS.new W0 _ [⟨#[98,57,48,48]⟩,⟨#[118,104,102]⟩,⟨#[117,104,102]⟩,⟨#[109,119]⟩] 9 rfl)).mono ?_;rintro e w1 ⟨⟨vn,hv,rfl⟩,k1,ka,kb,S1,C1⟩;have h_vn:vn.size≤20:=by
  simp only[List.mem_cons,List.not_mem_nil,or_false] at hv
  rcases hv with rfl|rfl|rfl|rfl<;>decide
 have z1:=C1.size;have zb:=BA.size;have HC1:=IJ ((HC0.out.trans (Chg.of_below BA)).trans C1);have HK1:=IJ ((C1.block _ II (by simp<;>omega)).trans (bkB HK0.out BA II));have HS1:=IJ S1;clear S1 C1 BA HS0 HC0 HK0 hv;go_upto_region 2 with (fail);obtain⟨w2,hw2,b2,z2,k2⟩:=zav w1 #[IQ vn,J 0,J 0,J 0,J 0] 102;rw[hw2];clear hw2;obtain⟨r,hr⟩:∃ r,r=w.heap.size:=⟨_,rfl⟩
 obtain⟨f,hf⟩:∃ f,f=w1.heap.size:=⟨_,rfl⟩
 rw[← hr] at HK1;rw[← hf] at k2;have D2:Hid (DrS b k 2 w w2 r f zeg #[IQ vn,J 0,J 0,J 0,J 0] 102):=⟨⟨k1,ka,kb,HS1.out.below HS1.out.lt b2⟩,HC1.out.trans (Chg.of_below b2),bkB HK1.out b2 II,k2,yb,II,II,II⟩
 rw[← hr,← hf];clear b2 k2 HS1 HC1 HK1 ka kb hr hf z2 z1 zb z0;go_wp2_with (fail)
 go_at_call 66
 have BA:=zak w2 (.cells #[J 1,J 1000,J 150000,J 890000,J 17700000] 2);have DA:=D2.out.below BA;obtain⟨kk,ka,kb,SS⟩:=DA.src;refine (zco b kk [1,1000,150000,890000,17700000] w2.heap.size 5 _ SS II (by have:=D2.out.bl;have:=D2.out.chg.size;omega) (by simp) (by simp) (LayI.new w2 _ [1,1000,150000,890000,17700000] 2 rfl)).mono ?_;rintro e w3 ⟨⟨lw,hv,rfl⟩,hq⟩;have D3:Hid (DrS b k 4 w w3 r f zeg #[IQ vn,J 0,J 0,J 0,J 0] 102):=DA.call ka kb hq;have h_lw:I64 lw:=by
  simp only[List.mem_cons,List.not_mem_nil,or_false] at hv
  rcases hv with rfl|rfl|rfl|rfl|rfl<;>(constructor<;>omega)
 clear D2 DA SS hq hv BA ka kb;have q1:=D3.out.at_ 1 rfl;have f1:=bkF D3.out.hf 1;go_upto_region 3 with (fail);have D4:Hid (DrS b k 4 w (w3.setCell ⟨f,1,none⟩ (J lw)) r f zeg #[IQ vn,J lw,J 0,J 0,J 0] 102):=(D3.out.set 1 (J lw))
 generalize (w3.setCell ⟨f,1,none⟩ (J lw))=w4 at *;clear D3 q1 f1;go_wp2_with (fail)
 go_at_call 66
 have BA:=zak w4 (.cells #[J 1,J 7,J 25,J 200,J 1000] 2);have DA:=D4.out.below BA;obtain⟨kk,ka,kb,SS⟩:=DA.src;refine (zco b kk [1,7,25,200,1000] w4.heap.size 5 _ SS II (by have:=D4.out.bl;have:=D4.out.chg.size;omega) (by simp) (by simp) (LayI.new w4 _ [1,7,25,200,1000] 2 rfl)).mono ?_;rintro e w5 ⟨⟨ra,hv,rfl⟩,hq⟩;have D5:Hid (DrS b k 6 w w5 r f zeg #[IQ vn,J lw,J 0,J 0,J 0] 102):=DA.call ka kb hq;have h_ra:I64 ra:=by
  simp only[List.mem_cons,List.not_mem_nil,or_false] at hv
  rcases hv with rfl|rfl|rfl|rfl|rfl<;>(constructor<;>omega)
 clear D4 DA SS hq hv BA ka kb;have q3:=D5.out.at_ 3 rfl;have f3:=bkF D5.out.hf 3;go_upto_region 4 with (fail);have D6:Hid (DrS b k 6 w (w5.setCell ⟨f,3,none⟩ (J ra)) r f zeg #[IQ vn,J lw,J 0,J ra,J 0] 102):=(D5.out.set 3 (J ra))
 generalize (w5.setCell ⟨f,3,none⟩ (J ra))=w6 at *;clear D5 q3 f3;go_wp2_with (fail)
 go_at_call 59
 obtain⟨kk,ka,kb,SS⟩:=D6.out.src;refine (zbb b kk 40 _ SS II II II).mono ?_;rintro e w7 ⟨⟨mn,mn0,mn1,rfl⟩,hq⟩;have D7:Hid (DrS b k 8 w w7 r f zeg #[IQ vn,J lw,J 0,J ra,J 0] 102):=D6.out.call ka kb hq;clear D6 SS hq ka kb;go_upto_region 5 with (fail);have DC:=IJ (D7.out.below (zbc w7));clear D7;refine za1 11 [(0,true),(1,true),(2,true),(3,true),(4,true),(5,true),(6,true),(7,true),(8,true),(9,true),(10,false)] (fun W=>W.cell? ⟨f,1,none⟩=some (J lw)∧W.cell? ⟨f,3,none⟩=some (J ra)) JI JI ⟨bkC DC.out.hf 1 rfl,bkC DC.out.hf 3 rfl⟩ (fun hHeld=>?_);generalize w7.drew=Y0 at *;clear hHeld
 iterate 10 (refine zaj (v:=?_) rfl (fun _ _ _ h=>h) ?_ ?_;rotate_left;focus (intro W hSW;(try dsimp only at hSW);(go_simp<;>with_reducible rfl));(try simp only[Act.put,OO,OJ,OQ]))
 refine za5 rfl (fun K hK=>?_);go_simp;obtain⟨kk,ka,kb,SS⟩:=DC.out.src;refine (pick_any b kk ra _ SS II h_ra).mono ?_;rintro e w8 ⟨⟨py,py0,py1,rfl⟩,hq⟩;have DD:Hid (DrS b k 10 w w8 r f zeg #[IQ vn,J lw,J 0,J ra,J 0] 102):=DC.out.call ka kb hq;refine hK.out _ _ ⟨bkC DD.out.hf 1 rfl,bkC DD.out.hf 3 rfl⟩ ?_;clear hK K DC SS ka kb hq
 (try simp only[Act.put,OO,OJ,OQ])
 refine zb1 ?_;simp only[List.drop_succ_cons,List.drop_zero];have q1:=bkC DD.out.hf 1 rfl;have q3:=bkC DD.out.hf 3 rfl;have q2:=bkC DD.out.hf 2 rfl;have fz:=bkF DD.out.hf;go_upto_region 6 with (fail);have i_hi:I64 (wrap64 (wrap64 (lw+wrap64 ((mn+1)*ra))+py)):=ze6 _;have D9:Hid (DrS b k 10 w (w8.setCell ⟨f,2,none⟩ (J (wrap64 (wrap64 (lw+wrap64 ((mn+1)*ra))+py)))) r f zeg #[IQ vn,J lw,J (wrap64 (wrap64 (lw+wrap64 ((mn+1)*ra))+py)),J ra,J 0] 102):=DD.out.set 2 (J (wrap64 (wrap64 (lw+wrap64 ((mn+1)*ra))+py)));generalize (w8.setCell ⟨f,2,none⟩ (J (wrap64 (wrap64 (lw+wrap64 ((mn+1)*ra))+py))))=w9 at *;generalize wrap64 (wrap64 (lw+wrap64 ((mn+1)*ra))+py)=hi at *;clear DD fz q1 q3 q2;go_wp2_with (fail)
 go_at_call 68
 obtain⟨kk,ka,kb,SS⟩:=D9.out.src;refine (one_any b kk 3 _ SS II ⟨II,II⟩).mono ?_;rintro e w10 ⟨⟨q,rfl⟩,hq⟩;have D10:Hid (DrS b k 12 w w10 r f zeg #[IQ vn,J lw,J hi,J ra,J 0] 102):=D9.out.call ka kb hq;clear D9 SS hq ka kb;go_upto_if 34 with (fail);go_cut [] (fun wx=>∃ du:Int,I64 du∧DrS b k 14 w wx r f zeg #[IQ vn,J lw,J hi,J ra,J du] 102)
 case first =>
  cases q with
  | false =>
   go_wp2;go_meet;exact⟨0,⟨II,II⟩,D10.out.more II⟩
  | true =>
   go_upto_region 7 with (fail);have DC:=IJ (D10.out.below (zbc w10));clear D10;refine za1 7 [(0,true),(1,true),(2,true),(3,true),(4,true),(5,true),(6,false)] (fun W=>W.cell? ⟨f,1,none⟩=some (J lw)∧W.cell? ⟨f,2,none⟩=some (J hi)) JI JI ⟨bkC DC.out.hf 1 rfl,bkC DC.out.hf 2 rfl⟩ (fun hHeld=>?_);generalize w10.drew=Y0 at *;clear hHeld
   iterate 6 (refine zaj (v:=?_) rfl (fun _ _ _ h=>h) ?_ ?_;rotate_left;focus (intro W hSW;(try dsimp only at hSW);(go_simp<;>with_reducible rfl));(try simp only[Act.put,OO,OJ,OQ]))
   refine za5 rfl (fun K hK=>?_);go_simp;obtain⟨kk,ka,kb,SS⟩:=DC.out.src;refine (pick_any b kk 5000 _ SS II ⟨II,II⟩).mono ?_;rintro e w11 ⟨⟨pz,pz0,pz1,rfl⟩,hq⟩;have DD:Hid (DrS b k 14 w w11 r f zeg #[IQ vn,J lw,J hi,J ra,J 0] 102):=DC.out.call ka kb hq;refine hK.out _ _ ⟨bkC DD.out.hf 1 rfl,bkC DD.out.hf 2 rfl⟩ ?_;clear hK K DC SS ka kb hq
   (try simp only[Act.put,OO,OJ,OQ])
   refine zb1 ?_;simp only[List.drop_succ_cons,List.drop_zero];have q1:=bkC DD.out.hf 1 rfl;have q2:=bkC DD.out.hf 2 rfl;have q4:=bkC DD.out.hf 4 rfl;have fz:=bkF DD.out.hf;go_wp2_with (fail);go_meet;have i_du:I64 (wrap64 (wrap64 (hi-lw)+pz)):=ze6 _;have D12:Hid (DrS b k 14 w (w11.setCell ⟨f,4,none⟩ (J (wrap64 (wrap64 (hi-lw)+pz)))) r f zeg #[IQ vn,J lw,J hi,J ra,J (wrap64 (wrap64 (hi-lw)+pz))] 102):=DD.out.set 4 (J (wrap64 (wrap64 (hi-lw)+pz)));generalize (w11.setCell ⟨f,4,none⟩ (J (wrap64 (wrap64 (hi-lw)+pz))))=w12 at *;generalize wrap64 (wrap64 (hi-lw)+pz)=du at *;clear DD fz q1 q2 q4;exact⟨du,i_du,D12.out⟩
 case rest =>
  obtain⟨du,i_du,hd⟩:=hcut;have D20:=IJ hd;clear hd D10;generalize wc=w20 at *;have t0:=D20.out.at_ 0 rfl;have t1:=D20.out.at_ 1 rfl;have t2:=D20.out.at_ 2 rfl;have t3:=D20.out.at_ 3 rfl;have t4:=D20.out.at_ 4 rfl;obtain⟨u0,u1,u2,u3,u4,g⟩:=bz5 D20.out.hr;go_wp2;exact bodyPost_ret (v:=.agg #[IQ vn,J lw,J hi,J ra,J du]) (by simp[results,Tryz.results122,go_sem, *]) rfl ⟨⟨vn,lw,hi,ra,du⟩,⟨h_vn,h_lw,i_hi,h_ra,i_du⟩,rfl,D20.out.fin [IQ vn,J lw,J hi,J ra,J du]⟩
theorem l15Draw_any (b k:Nat) (w:World) (h:Src w b k) (hk:k≤1099511300000):Calls Tryz.prog 123 #[.pointer (some ⟨b,0,none⟩)] w (DrBand b k 22 w):=by
 have yb:=h.lt;have HS:=IJ h;clear h;go_enter Tryz.func123,Tryz.ntmps123;go_wp2_with (fail);obtain⟨W0,hW0,b0,z0,k0⟩:=zav w #[IQ ⟨#[]⟩,J 0,J 0,J 0,J 0] 102;rw[hW0];clear hW0;obtain⟨r,hr⟩:∃ r,r=w.heap.size:=⟨_,rfl⟩
 rw[← hr] at k0 ⊢;have r1:=Nat.le_of_eq hr;have r2:=Nat.le_of_eq hr.symm;have K0:=IJ k0;have B0:=IJ b0;clear b0 k0 hr
 go_at_call 122
 refine (l15DrawOk_any b k W0 (HS.out.below HS.out.lt B0.out) II).mono ?_;rintro e w1 ⟨x,hx,rfl,kk,ka,kb,SS,cq⟩;have HX:=IJ hx;have SK:=IJ SS;have CQ:=IJ cq;have zq:=cq.size;have K1:=IJ ((cq.block r II (by simp<;>omega)).trans K0.out);clear hx SS cq HS K0;go_upto_region 2 with (fail);obtain⟨w2,hw2,b2,z2,k2⟩:=zav w1 #[IQ x.name,J x.low,J x.high,J x.raster,J x.duplex] 102;rw[hw2];clear hw2;obtain⟨f,hf⟩:∃ f,f=w1.heap.size:=⟨_,rfl⟩
 rw[← hf] at k2 ⊢;have D2:Hid (DrS b k 14 w w2 r f zeg #[IQ x.name,J x.low,J x.high,J x.raster,J x.duplex] 102):=⟨⟨kk,ka,kb,SK.out.below SK.out.lt b2⟩,((Chg.of_below B0.out).trans CQ.out).trans (Chg.of_below b2),bkB K1.out b2 II,k2,yb,II,II,II⟩
 clear b2 k2 SK CQ K1 B0 hf z0 zq z2 ka kb;go_wp2_with (fail)
 go_at_call 59
 obtain⟨kk,ka,kb,SS⟩:=D2.out.src;refine (zbb b kk 18 _ SS II II II).mono ?_;rintro e w3 ⟨⟨c,c0,c1,rfl⟩,hq⟩;have D3:Hid (DrS b k 16 w w3 r f zeg #[IQ x.name,J x.low,J x.high,J x.raster,J x.duplex] 102):=D2.out.call ka kb hq;clear D2 SS hq ka kb
 go_upto_block 0 with (fail)
 go_cut [] (fun wx=>∃ x:DBand,BandW x∧DrS b k 22 w wx r f zeg #[IQ x.name,J x.low,J x.high,J x.raster,J x.duplex] 102)
 case first =>
  by_cases h0:c=0
  ·subst h0
   obtain⟨q1,q2,q3⟩:=And.intro (bkC D3.out.hf 1 rfl) (And.intro (bkC D3.out.hf 2 rfl) (bkC D3.out.hf 3 rfl));go_wp2_with (fail);clear q1 q2 q3
   go_at_call 125
   have BA:=zak w3 (.cells #[IQ ⟨#[]⟩,IQ ⟨#[66]⟩] 9);have DA:=D3.out.below BA;obtain⟨kk,ka,kb,SS⟩:=DA.src;refine (zd4 b kk [⟨#[]⟩,⟨#[66]⟩] w3.heap.size 2 _ SS II (by have:=D3.out.bl;have:=D3.out.chg.size;omega) (by simp) (by simp) (LayS.new w3 _ [⟨#[]⟩,⟨#[66]⟩] 9 rfl)).mono ?_;rintro e w4 ⟨⟨v,hv,rfl⟩,hq⟩;have D4:Hid (DrS b k 18 w w4 r f zeg #[IQ x.name,J x.low,J x.high,J x.raster,J x.duplex] 102):=DA.call ka kb hq;have hI:v.size≤20:=by
    simp only[List.mem_cons,List.not_mem_nil,or_false] at hv
    rcases hv with rfl|rfl<;>(decide)
   clear D3 DA SS hq hv BA ka kb;have q0:=bkC D4.out.hf 0 rfl;have fz:=bkF D4.out.hf;go_wp2;go_meet;exact⟨⟨v,x.low,x.high,x.raster,x.duplex⟩,⟨hI,HX.out.2.1,HX.out.2.2.1,HX.out.2.2.2.1,HX.out.2.2.2.2⟩,(D4.out.set 0 (IQ v)).more II⟩
  by_cases h1:c=1
  ·subst h1
   obtain⟨q1,q2,q3⟩:=And.intro (bkC D3.out.hf 1 rfl) (And.intro (bkC D3.out.hf 2 rfl) (bkC D3.out.hf 3 rfl));go_wp2_with (fail);clear q1 q2 q3
   go_at_call 66
   have BA:=zak w3 (.cells #[J 0,J (-5),J x.high,J (wrap64 (x.high+1))] 2);have DA:=D3.out.below BA;obtain⟨kk,ka,kb,SS⟩:=DA.src;refine (zco b kk [0,-5,x.high,wrap64 (x.high+1)] w3.heap.size 4 _ SS II (by have:=D3.out.bl;have:=D3.out.chg.size;omega) (by simp) (by simp) (LayI.new w3 _ [0,-5,x.high,wrap64 (x.high+1)] 2 rfl)).mono ?_;rintro e w4 ⟨⟨v,hv,rfl⟩,hq⟩;have D4:Hid (DrS b k 18 w w4 r f zeg #[IQ x.name,J x.low,J x.high,J x.raster,J x.duplex] 102):=DA.call ka kb hq;have hI:I64 v:=by
    simp only[List.mem_cons,List.not_mem_nil,or_false] at hv
    rcases hv with rfl|rfl|rfl|rfl<;>(first|exact HX.out.2.1|exact HX.out.2.2.1|exact ze6 _|(constructor<;>omega))
   clear D3 DA SS hq hv BA ka kb;have q1:=bkC D4.out.hf 1 rfl;have fz:=bkF D4.out.hf;go_wp2;go_meet;exact⟨⟨x.name,v,x.high,x.raster,x.duplex⟩,⟨HX.out.1,hI,HX.out.2.2.1,HX.out.2.2.2.1,HX.out.2.2.2.2⟩,(D4.out.set 1 (J v)).more II⟩
  by_cases h2:c=2
  ·subst h2
   obtain⟨q1,q2,q3⟩:=And.intro (bkC D3.out.hf 1 rfl) (And.intro (bkC D3.out.hf 2 rfl) (bkC D3.out.hf 3 rfl));go_wp2_with (fail);clear q1 q2 q3
   go_at_call 66
   have BA:=zak w3 (.cells #[J 100000000,J 100000001,J x.low] 2);have DA:=D3.out.below BA;obtain⟨kk,ka,kb,SS⟩:=DA.src;refine (zco b kk [100000000,100000001,x.low] w3.heap.size 3 _ SS II (by have:=D3.out.bl;have:=D3.out.chg.size;omega) (by simp) (by simp) (LayI.new w3 _ [100000000,100000001,x.low] 2 rfl)).mono ?_;rintro e w4 ⟨⟨v,hv,rfl⟩,hq⟩;have D4:Hid (DrS b k 18 w w4 r f zeg #[IQ x.name,J x.low,J x.high,J x.raster,J x.duplex] 102):=DA.call ka kb hq;have hI:I64 v:=by
    simp only[List.mem_cons,List.not_mem_nil,or_false] at hv
    rcases hv with rfl|rfl|rfl<;>(first|exact HX.out.2.1|exact HX.out.2.2.1|exact ze6 _|(constructor<;>omega))
   clear D3 DA SS hq hv BA ka kb;have q2:=bkC D4.out.hf 2 rfl;have fz:=bkF D4.out.hf;go_wp2;go_meet;exact⟨⟨x.name,x.low,v,x.raster,x.duplex⟩,⟨HX.out.1,HX.out.2.1,hI,HX.out.2.2.2.1,HX.out.2.2.2.2⟩,(D4.out.set 2 (J v)).more II⟩
  by_cases h3:c=3
  ·subst h3
   obtain⟨q1,q2,q3⟩:=And.intro (bkC D3.out.hf 1 rfl) (And.intro (bkC D3.out.hf 2 rfl) (bkC D3.out.hf 3 rfl));go_wp2_with (fail);clear q1 q2 q3
   go_at_call 66
   have BA:=zak w3 (.cells #[J 0,J (-1),J 100000,J 100001] 2);have DA:=D3.out.below BA;obtain⟨kk,ka,kb,SS⟩:=DA.src;refine (zco b kk [0,-1,100000,100001] w3.heap.size 4 _ SS II (by have:=D3.out.bl;have:=D3.out.chg.size;omega) (by simp) (by simp) (LayI.new w3 _ [0,-1,100000,100001] 2 rfl)).mono ?_;rintro e w4 ⟨⟨v,hv,rfl⟩,hq⟩;have D4:Hid (DrS b k 18 w w4 r f zeg #[IQ x.name,J x.low,J x.high,J x.raster,J x.duplex] 102):=DA.call ka kb hq;have hI:I64 v:=by
    simp only[List.mem_cons,List.not_mem_nil,or_false] at hv
    rcases hv with rfl|rfl|rfl|rfl<;>(first|exact HX.out.2.1|exact HX.out.2.2.1|exact ze6 _|(constructor<;>omega))
   clear D3 DA SS hq hv BA ka kb;have q3:=bkC D4.out.hf 3 rfl;have fz:=bkF D4.out.hf;go_wp2;go_meet;exact⟨⟨x.name,x.low,x.high,v,x.duplex⟩,⟨HX.out.1,HX.out.2.1,HX.out.2.2.1,hI,HX.out.2.2.2.2⟩,(D4.out.set 3 (J v)).more II⟩
  by_cases h4:c=4
  ·subst h4
   obtain⟨q1,q2,q3⟩:=And.intro (bkC D3.out.hf 1 rfl) (And.intro (bkC D3.out.hf 2 rfl) (bkC D3.out.hf 3 rfl));go_wp2_with (fail);clear q1 q2 q3
   go_at_call 66
   have BA:=zak w3 (.cells #[J (-1),J 1,J 100000000] 2);have DA:=D3.out.below BA;obtain⟨kk,ka,kb,SS⟩:=DA.src;refine (zco b kk [-1,1,100000000] w3.heap.size 3 _ SS II (by have:=D3.out.bl;have:=D3.out.chg.size;omega) (by simp) (by simp) (LayI.new w3 _ [-1,1,100000000] 2 rfl)).mono ?_;rintro e w4 ⟨⟨v,hv,rfl⟩,hq⟩;have D4:Hid (DrS b k 18 w w4 r f zeg #[IQ x.name,J x.low,J x.high,J x.raster,J x.duplex] 102):=DA.call ka kb hq;have hI:I64 v:=by
    simp only[List.mem_cons,List.not_mem_nil,or_false] at hv
    rcases hv with rfl|rfl|rfl<;>(first|exact HX.out.2.1|exact HX.out.2.2.1|exact ze6 _|(constructor<;>omega))
   clear D3 DA SS hq hv BA ka kb;have q4:=bkC D4.out.hf 4 rfl;have fz:=bkF D4.out.hf;go_wp2;go_meet;exact⟨⟨x.name,x.low,x.high,x.raster,v⟩,⟨HX.out.1,HX.out.2.1,HX.out.2.2.1,HX.out.2.2.2.1,hI⟩,(D4.out.set 4 (J v)).more II⟩
  by_cases h5:c=5
  ·subst h5
   obtain⟨q1,q2,q3⟩:=And.intro (bkC D3.out.hf 1 rfl) (And.intro (bkC D3.out.hf 2 rfl) (bkC D3.out.hf 3 rfl));have fz:=bkF D3.out.hf;go_upto_region 15 with (fail);obtain⟨hi,ehi⟩:∃ v,v=wrap64 (x.low+wrap64 (1000*x.raster)):=⟨_,rfl⟩
   have hI:I64 hi:=by rw[ehi];exact ze6 _
   rw[← ehi];have D4:Hid (DrS b k 16 w (w3.setCell ⟨f,2,none⟩ (J hi)) r f zeg #[IQ x.name,J x.low,J hi,J x.raster,J x.duplex] 102):=D3.out.set 2 (J hi);generalize w3.setCell ⟨f,2,none⟩ (J hi)=w4 at *;clear D3 q1 q2 q3 fz ehi;go_wp2_with (fail)
   go_at_call 68
   obtain⟨kk,ka,kb,SS⟩:=D4.out.src;refine (one_any b kk 2 _ SS II ⟨II,II⟩).mono ?_;rintro e w5 ⟨⟨cd,rfl⟩,hq⟩;have D5:Hid (DrS b k 18 w w5 r f zeg #[IQ x.name,J x.low,J hi,J x.raster,J x.duplex] 102):=D4.out.call ka kb hq;clear D4 SS hq ka kb
   cases cd with
   | false =>
    go_wp2;go_meet;exact⟨⟨x.name,x.low,hi,x.raster,x.duplex⟩,⟨HX.out.1,HX.out.2.1,hI,HX.out.2.2.2.1,HX.out.2.2.2.2⟩,D5.out.more II⟩
   | true =>
    obtain⟨q2,q3⟩:=And.intro (bkC D5.out.hf 2 rfl) (bkC D5.out.hf 3 rfl);have fz:=bkF D5.out.hf;go_wp2;go_meet;exact⟨⟨x.name,x.low,wrap64 (hi+x.raster),x.raster,x.duplex⟩,⟨HX.out.1,HX.out.2.1,ze6 _,HX.out.2.2.2.1,HX.out.2.2.2.2⟩,(D5.out.set 2 (J (wrap64 (hi+x.raster)))).more II⟩
  go_wp2;go_meet;exact⟨x,HX.out,D3.out.more II⟩
 case rest =>
  obtain⟨x,hx,hd⟩:=hcut;have D9:=IJ hd;clear hd D3 HX;generalize wc=w9 at *;obtain⟨t0,t1,t2,t3,t4,_⟩:=bz5 D9.out.hf;obtain⟨u0,u1,u2,u3,u4,g⟩:=bz5 D9.out.hr;go_wp2;exact bodyPost_ret (v:=.agg #[IQ x.name,J x.low,J x.high,J x.raster,J x.duplex]) (by simp[results,Tryz.results123,go_sem, *]) rfl ⟨x,hx,rfl,D9.out.fin [IQ x.name,J x.low,J x.high,J x.raster,J x.duplex]⟩
theorem l27DrawPlace_any (b k:Nat) (w:World) (h:Src w b k) (hk:k≤1099511300000):Calls Tryz.prog 83 #[.pointer (some ⟨b,0,none⟩)] w (DrProt b k 20 w):=by
 have yb:=h.lt;have HS:=IJ h;clear h;go_enter Tryz.func83,Tryz.ntmps83;go_upto_region 1 with (fail);obtain⟨W0,hW0,b0,z0,k0⟩:=zav w zed 57
 dsimp only[zed] at hW0
 rw[hW0];clear hW0;have HS0:=IJ (HS.out.below HS.out.lt b0);have HC0:Hid (Chg [b] w W0):=Chg.of_below b0;have HK0:=IJ k0;clear b0 k0 HS;go_wp2_with (fail)
 go_at_call 125
 have BA:=zak W0 (.cells #[IQ ⟨#[100,105,115,104]⟩,IQ ⟨#[97,105,114,112,111,114,116]⟩,IQ ⟨#[108,97,98]⟩] 9);refine (zd4 b k [⟨#[100,105,115,104]⟩,⟨#[97,105,114,112,111,114,116]⟩,⟨#[108,97,98]⟩] W0.heap.size 3 _ (HS0.out.below HS0.out.lt BA) II II (by simp) (by simp) (LayS.new W0 _ [⟨#[100,105,115,104]⟩,⟨#[97,105,114,112,111,114,116]⟩,⟨#[108,97,98]⟩] 9 rfl)).mono ?_;rintro e w1 ⟨⟨vn,hv,rfl⟩,k1,ka,kb,S1,C1⟩;have h_vn:vn.size≤20:=by
  simp only[List.mem_cons,List.not_mem_nil,or_false] at hv
  rcases hv with rfl|rfl|rfl<;>decide
 have z1:=C1.size;have zb:=BA.size;have HC1:=IJ ((HC0.out.trans (Chg.of_below BA)).trans C1);have HK1:=IJ ((C1.block _ II (by simp<;>omega)).trans (bkB HK0.out BA II));have HS1:=IJ S1;clear S1 C1 BA HS0 HC0 HK0 hv;go_upto_region 2 with (fail);obtain⟨w2,hw2,b2,z2,k2⟩:=zav w1 #[IQ vn,J 0,J 0,J 0,J 0,J 0,J 0] 57;rw[hw2];clear hw2;obtain⟨r,hr⟩:∃ r,r=w.heap.size:=⟨_,rfl⟩
 obtain⟨f,hf⟩:∃ f,f=w1.heap.size:=⟨_,rfl⟩
 rw[← hr] at HK1;rw[← hf] at k2;have D2:Hid (DrS b k 2 w w2 r f zed #[IQ vn,J 0,J 0,J 0,J 0,J 0,J 0] 57):=⟨⟨k1,ka,kb,HS1.out.below HS1.out.lt b2⟩,HC1.out.trans (Chg.of_below b2),bkB HK1.out b2 II,k2,yb,II,II,II⟩
 rw[← hr,← hf];clear b2 k2 HS1 HC1 HK1 ka kb hr hf z2 z1 zb z0;go_wp2_with (fail)
 go_at_call 58
 obtain⟨kk,ka,kb,SS⟩:=D2.out.src;refine (l14DrawPlace_any b kk _ SS II).mono ?_;rintro e w3 ⟨px,py,hpx,hpy,rfl,hq⟩;have D3:Hid (DrS b k 6 w w3 r f zed #[IQ vn,J 0,J 0,J 0,J 0,J 0,J 0] 57):=D2.out.call ka kb hq;clear D2 SS hq ka kb;have q1:=D3.out.at_ 1 rfl;have f1:=bkF D3.out.hf 1;have q2:=D3.out.at_ 2 rfl;have f2:=bkF D3.out.hf 2;go_upto_region 3 with (fail);have D4:Hid (DrS b k 6 w ((w3.setCell ⟨f,1,none⟩ (J px)).setCell ⟨f,2,none⟩ (J py)) r f zed #[IQ vn,J px,J py,J 0,J 0,J 0,J 0] 57):=((D3.out.set 1 (J px)).set 2 (J py))
 generalize ((w3.setCell ⟨f,1,none⟩ (J px)).setCell ⟨f,2,none⟩ (J py))=w4 at *;clear D3 q1 f1 q2 f2;go_wp2_with (fail)
 go_at_call 59
 obtain⟨kk,ka,kb,SS⟩:=D4.out.src;refine (zbb b kk 200 _ SS II II II).mono ?_;rintro e w5 ⟨⟨ab,ab0,ab1,rfl⟩,hq⟩;have D5:Hid (DrS b k 8 w w5 r f zed #[IQ vn,J px,J py,J 0,J 0,J 0,J 0] 57):=D4.out.call ka kb hq;clear D4 SS hq ka kb;have q3:=D5.out.at_ 3 rfl;have f3:=bkF D5.out.hf 3;go_upto_region 4 with (fail);have D6:Hid (DrS b k 8 w (w5.setCell ⟨f,3,none⟩ (J (ab+1))) r f zed #[IQ vn,J px,J py,J (ab+1),J 0,J 0,J 0] 57):=(D5.out.set 3 (J (ab+1)))
 generalize (w5.setCell ⟨f,3,none⟩ (J (ab+1)))=w6 at *;clear D5 q3 f3;go_wp2_with (fail)
 go_at_call 66
 have BA:=zak w6 (.cells #[J 1,J 890000,J 891000] 2);have DA:=D6.out.below BA;obtain⟨kk,ka,kb,SS⟩:=DA.src;refine (zco b kk [1,890000,891000] w6.heap.size 3 _ SS II (by have:=D6.out.bl;have:=D6.out.chg.size;omega) (by simp) (by simp) (LayI.new w6 _ [1,890000,891000] 2 rfl)).mono ?_;rintro e w7 ⟨⟨lw,hv,rfl⟩,hq⟩;have D7:Hid (DrS b k 10 w w7 r f zed #[IQ vn,J px,J py,J (ab+1),J 0,J 0,J 0] 57):=DA.call ka kb hq;have h_lw:1≤lw∧lw≤891000:=by
  simp only[List.mem_cons,List.not_mem_nil,or_false] at hv
  rcases hv with rfl|rfl|rfl<;>omega
 clear D6 DA SS hq hv BA ka kb;have q4:=D7.out.at_ 4 rfl;have f4:=bkF D7.out.hf 4;go_upto_region 5 with (fail);have D8:Hid (DrS b k 10 w (w7.setCell ⟨f,4,none⟩ (J lw)) r f zed #[IQ vn,J px,J py,J (ab+1),J lw,J 0,J 0] 57):=(D7.out.set 4 (J lw))
 generalize (w7.setCell ⟨f,4,none⟩ (J lw))=w8 at *;clear D7 q4 f4;have DC:=IJ (D8.out.below (zbc w8));clear D8;refine za1 5 [(0,true),(1,true),(2,true),(3,false),(4,false)] (fun W=>W.cell? ⟨f,4,none⟩=some (J lw)) JI JI (bkC DC.out.hf 4 rfl) (fun hHeld=>?_);generalize w8.drew=Y0 at *;clear hHeld
 iterate 3 (refine zaj (v:=?_) rfl (fun _ _ _ h=>h) ?_ ?_;rotate_left;focus (intro W hSW;(try dsimp only at hSW);(go_simp<;>with_reducible rfl));(try simp only[Act.put,OO,OJ,OQ]))
 have BA:=zak Y0 (.cells #[J 1,J 1000,J 20000] 2);have DA:=IJ (DC.out.below BA);refine za5 rfl (fun K hK=>?_);go_simp;refine hK.out _ _ (bkC DA.out.hf 4 rfl) ?_;clear hK K
 (try simp only[Act.put,OO,OJ,OQ])
 refine za5 rfl (fun K hK=>?_);go_simp;obtain⟨kk,ka,kb,SS⟩:=DA.out.src;refine (zco b kk [1,1000,20000] Y0.heap.size 3 _ SS II (by have:=DC.out.bl;have:=DC.out.chg.size;omega) (by simp) (by simp) (LayI.new Y0 _ [1,1000,20000] 2 rfl)).mono ?_;rintro e v1 ⟨⟨wd,hv,rfl⟩,hq⟩;have DD:Hid (DrS b k 12 w v1 r f zed #[IQ vn,J px,J py,J (ab+1),J lw,J 0,J 0] 57):=DA.out.call ka kb hq;have hwd:1≤wd∧wd≤20000:=by
  simp only[List.mem_cons,List.not_mem_nil,or_false] at hv
  rcases hv with rfl|rfl|rfl<;>omega
 refine hK.out _ _ (bkC DD.out.hf 4 rfl) ?_;clear hK K DC DA BA SS ka kb hq hv
 (try simp only[Act.put,OO,OJ,OQ])
 refine zb1 ?_;simp only[List.drop_succ_cons,List.drop_zero];have q4:=bkC DD.out.hf 4 rfl;have q5:=bkC DD.out.hf 5 rfl;have fz:=bkF DD.out.hf;go_upto_region 6 with (fail);have D30:Hid (DrS b k 12 w (v1.setCell ⟨f,5,none⟩ (J (lw+wd))) r f zed #[IQ vn,J px,J py,J (ab+1),J lw,J (lw+wd),J 0] 57):=DD.out.set 5 (J (lw+wd));generalize v1.setCell ⟨f,5,none⟩ (J (lw+wd))=w30 at *;clear DD q4 q5 fz;go_wp2_with (fail)
 go_at_call 59
 obtain⟨kk,ka,kb,SS⟩:=D30.out.src;refine (zbb b kk 60 _ SS II II II).mono ?_;rintro e w31 ⟨⟨li,li0,li1,rfl⟩,hq⟩;have D31:Hid (DrS b k 14 w w31 r f zed #[IQ vn,J px,J py,J (ab+1),J lw,J (lw+wd),J 0] 57):=D30.out.call ka kb hq;clear D30 SS hq ka kb;have q6:=D31.out.at_ 6 rfl;have f6:=bkF D31.out.hf 6;go_upto_region 7 with (fail);have D32:Hid (DrS b k 14 w (w31.setCell ⟨f,6,none⟩ (J (-60000-li*1000))) r f zed #[IQ vn,J px,J py,J (ab+1),J lw,J (lw+wd),J (-60000-li*1000)] 57):=(D31.out.set 6 (J (-60000-li*1000)))
 generalize (w31.setCell ⟨f,6,none⟩ (J (-60000-li*1000)))=w32 at *;clear D31 q6 f6;obtain⟨x,hxc,hx⟩:∃ x:DProtected,(#[IQ vn,J px,J py,J (ab+1),J lw,J (lw+wd),J (-60000-li*1000)]:Array Value)=#[IQ x.name,J x.at_.place.x,J x.at_.place.y,J x.at_.above,J x.low,J x.high,J x.limit]∧PlaceW x:=⟨⟨vn,⟨⟨px,py⟩,ab+1⟩,lw,lw+wd,-60000-li*1000⟩,rfl,⟨h_vn,⟨(show I64 (px) from ⟨II,II⟩),(show I64 (py) from ⟨II,II⟩),(show I64 (ab+1) from ⟨II,II⟩)⟩,(show I64 (lw) from ⟨II,II⟩),(show I64 (lw+wd) from ⟨II,II⟩),(show I64 (-60000-li*1000) from ⟨II,II⟩)⟩⟩
 rw[hxc] at D32;have HX:=IJ hx;clear hx hxc;go_wp2_with (fail)
 go_at_call 59
 obtain⟨kk,ka,kb,SS⟩:=D32.out.src;refine (zbb b kk 20 _ SS II II II).mono ?_;rintro e w33 ⟨⟨c,c0,c1,rfl⟩,hq⟩;have D33:Hid (DrS b k 16 w w33 r f zed #[IQ x.name,J x.at_.place.x,J x.at_.place.y,J x.at_.above,J x.low,J x.high,J x.limit] 57):=D32.out.call ka kb hq;clear D32 SS hq ka kb
 go_upto_block 0 with (fail)
 go_cut [] (fun wx=>∃ x:DProtected,PlaceW x∧DrS b k 20 w wx r f zed #[IQ x.name,J x.at_.place.x,J x.at_.place.y,J x.at_.above,J x.low,J x.high,J x.limit] 57)
 case first =>
  by_cases h0:c=0
  ·subst h0
   have q0:=bkC D33.out.hf 0 rfl;have fz:=bkF D33.out.hf;go_wp2;go_meet;exact⟨⟨⟨#[]⟩,x.at_,x.low,x.high,x.limit⟩,⟨(show (⟨#[]⟩:ByteArray).size≤20 by decide),HX.out.2.1,HX.out.2.2.1,HX.out.2.2.2.1,HX.out.2.2.2.2⟩,(D33.out.set 0 (IQ ⟨#[]⟩)).more II⟩
  by_cases h1:c=1
  ·subst h1
   have q4:=bkC D33.out.hf 4 rfl;have q5:=bkC D33.out.hf 5 rfl;have fz:=bkF D33.out.hf;go_wp2;go_meet;exact⟨⟨x.name,x.at_,x.low,x.low,x.limit⟩,⟨HX.out.1,HX.out.2.1,HX.out.2.2.1,HX.out.2.2.1,HX.out.2.2.2.2⟩,(D33.out.set 5 (J x.low)).more II⟩
  by_cases h2:c=2
  ·subst h2
   go_wp2_with (fail)
   go_at_call 66
   have BA:=zak w33 (.cells #[J 0,J 3000,J 3001] 2);have DA:=D33.out.below BA;obtain⟨kk,ka,kb,SS⟩:=DA.src;refine (zco b kk [0,3000,3001] w33.heap.size 3 _ SS II (by have:=D33.out.bl;have:=D33.out.chg.size;omega) (by simp) (by simp) (LayI.new w33 _ [0,3000,3001] 2 rfl)).mono ?_;rintro e v4 ⟨⟨v,hv,rfl⟩,hq⟩;have D4:Hid (DrS b k 18 w v4 r f zed #[IQ x.name,J x.at_.place.x,J x.at_.place.y,J x.at_.above,J x.low,J x.high,J x.limit] 57):=DA.call ka kb hq;have hI:I64 v:=by
    simp only[List.mem_cons,List.not_mem_nil,or_false] at hv
    rcases hv with rfl|rfl|rfl<;>(constructor<;>omega)
   clear D33 DA SS hq hv BA ka kb;have q3:=bkC D4.out.hf 3 rfl;have fz:=bkF D4.out.hf;go_wp2;go_meet;exact⟨⟨x.name,⟨x.at_.place,v⟩,x.low,x.high,x.limit⟩,⟨HX.out.1,⟨HX.out.2.1.1,HX.out.2.1.2.1,hI⟩,HX.out.2.2.1,HX.out.2.2.2.1,HX.out.2.2.2.2⟩,(D4.out.set 3 (J v)).more II⟩
  by_cases h3:c=3
  ·subst h3
   have q6:=bkC D33.out.hf 6 rfl;have fz:=bkF D33.out.hf;go_wp2;go_meet;exact⟨⟨x.name,x.at_,x.low,x.high,300001⟩,⟨HX.out.1,HX.out.2.1,HX.out.2.2.1,HX.out.2.2.2.1,(show I64 300001 from ⟨II,II⟩)⟩,(D33.out.set 6 (J 300001)).more II⟩
  by_cases h4:c=4
  ·subst h4
   have q1:=bkC D33.out.hf 1 rfl;have fz:=bkF D33.out.hf;go_wp2;go_meet;exact⟨⟨x.name,⟨⟨650,x.at_.place.y⟩,x.at_.above⟩,x.low,x.high,x.limit⟩,⟨HX.out.1,⟨(show I64 650 from ⟨II,II⟩),HX.out.2.1.2.1,HX.out.2.1.2.2⟩,HX.out.2.2.1,HX.out.2.2.2.1,HX.out.2.2.2.2⟩,(D33.out.set 1 (J 650)).more II⟩
  go_wp2;go_meet;exact⟨x,HX.out,D33.out.more II⟩
 case rest =>
  obtain⟨x,hx,hd⟩:=hcut;clear HX;have D9:=IJ hd;clear hd D33;generalize wc=w9 at *;obtain⟨t0,t1,t2,t3,t4,t5,t6,_⟩:=bz7 D9.out.hf;obtain⟨u0,u1,u2,u3,u4,u5,u6,g⟩:=bz7 D9.out.hr;go_wp2;exact bodyPost_ret (v:=.agg #[IQ x.name,J x.at_.place.x,J x.at_.place.y,J x.at_.above,J x.low,J x.high,J x.limit]) (by simp[results,Tryz.results83,go_sem, *]) rfl ⟨x,hx,rfl,D9.out.fin [IQ x.name,J x.at_.place.x,J x.at_.place.y,J x.at_.above,J x.low,J x.high,J x.limit]⟩
end Go.Proofs.YtpakghepnahooaaGreatDoor
