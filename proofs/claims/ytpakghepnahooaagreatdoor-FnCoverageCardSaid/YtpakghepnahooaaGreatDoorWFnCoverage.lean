/- The walk of the law FnCoverage: it returns true. -/
import Derived.Test.YtpakghepnahooaaGreatDoorLxG
import Derived.Test.YtpakghepnahooaaGreatDoorDw14
set_option linter.unusedVariables false
set_option linter.unusedSimpArgs false
namespace Go.Proofs.YtpakghepnahooaaGreatDoor.fnCoverage
open Go.RowKit
set_option maxHeartbeats 16000000
set_option maxRecDepth 100000
theorem rd_ras {w:World} {a b c:Int} {S L:List Int} {va vb:Value} {fp:List Nat} {lo hi:Nat} (h:OwnV w [intT a,intT b,intT c,zam S,zam L] [J a,J b,J c,va,vb] fp) (hi':In lo hi fp):Rd hi w (zam S) va∧Rd hi w (zam L) vb:=by
 obtain⟨f1,g1,rfl,_,h,_⟩:=h.uncons;obtain⟨f2,g2,rfl,_,h,_⟩:=h.uncons;obtain⟨f3,g3,rfl,_,h,_⟩:=h.uncons;exact rd_two h (fun x hx=>hi' x (by simp[hx]))
theorem walk (code:List UInt8) (v0:Value) (w:World) (LL:TabW w) (h0:Rd w w (bsT code) v0) :
  Calls Tryz.prog 3 #[v0] w fun e w'=>e=.returned (.bool true)∧OI w w w':=by
 have HLA:=IJ (b10Long_any code v0 w h0);have HP:=IJ (DrawCoverNetwork_any code v0 w h0);have HL:=IJ LL;obtain⟨x0,y0,rfl,_,_,_⟩:=h0.bs;clear h0 LL;obtain⟨i0,hi0,hz0,hz1,hz2⟩:=info_parts infoII
 by_cases hlong:decide ((1048576:Int)<(code.length:Int))=true
 ·rw[hlong] at HLA
  clear hlong;go_enter Tryz.func3,Tryz.ntmps3;go_wp2_with (fail)
  go_at_call 6
  refine HLA.out.mono ?_;rintro e w' ⟨rfl,rfl⟩;go_wp2;go_ret;exact⟨rfl,Below.refl _ _⟩
 rw[Bool.not_eq_true] at hlong;rw[hlong] at HLA;clear hlong;go_enter Tryz.func3,Tryz.ntmps3;go_wp2_with (fail)
 go_at_call 6
 refine HLA.out.mono ?_;rintro e _ ⟨rfl,rfl⟩;clear HLA;go_wp2_with (fail)
 go_at_call 7
 refine HP.out.mono ?_;rintro e w1 ⟨t,v3,v4,n,u0,u1,u2,u3,f,ab,le,ht,hn,hf,ha,hl,rfl,htr,hnr,hb1⟩;obtain⟨A4,C4,A5,C5,rfl,rfl⟩:=htr.form;obtain⟨A0,C0,A1,C1,A2,C2,A3,C3,rfl,rfl,rfl,rfl⟩:=hnr.form;obtain⟨hto,hts⟩:=ht.small;obtain⟨hno,hns⟩:=hn.small II II;have RT:=IJ htr.rd;have RN:=IJ hnr.rd;have B1:=IJ hb1;clear HP htr hnr hb1 ht hn;go_upto_region 4 with (fail);obtain⟨W0,hW0,b0_,z0,k0,k1⟩:=zdv w1 (t,A4,C4,A5,C5) 26 (n,A0,C0,A1,C1,A2,C2,A3,C3) 32;rw[hW0];clear hW0;have HD:=IJ (fun (W:World) (hW:OI W0 W0 W)=>bx5 k0 hW <| by4 k1 hW);have BW0:=btr B1 b0_;have B01:=IJ b0_;have HB:Hid (OI W0 W0 W0):=Below.refl _ _;have HL0:=IJ (HL.out.mono BW0.out);have CE:Hid (∀ W:World,OI W0 W0 W→Calls Tryz.prog 8 #[.agg (t,A4,C4,A5,C5),.agg (n,A0,C0,A1,C1,A2,C2,A3,C3),J f,J ab,J le] W (fun e w'=>∃ a0_3 c0_3 a0_4 c0_4 fp0,e=.returned (.tuple #[.agg #[J (covR t n f ab le).1.step,J (covR t n f ab le).1.width,J (covR t n f ab le).1.height,IZ a0_3 (covR t n f ab le).1.server.length c0_3,IZ a0_4 (covR t n f ab le).1.level.length c0_4],J (covR t n f ab le).2])∧OI W W w'∧OwnV w' (covR t n f ab le).1.tr [J (covR t n f ab le).1.step,J (covR t n f ab le).1.width,J (covR t n f ab le).1.height,IZ a0_3 (covR t n f ab le).1.server.length c0_3,IZ a0_4 (covR t n f ab le).1.level.length c0_4] fp0∧In W w'.heap.size fp0)):=fun W hW =>
  have h1:=b0_.trans (hW.mono b0_.size);have hz:=h1.size
  iCoverNetwork_std t n f ab le _ _ _ _ _ _ W (HL0.out.mono hW) ((RT.out.1.below h1).mono hz) ((RT.out.2.below h1).mono hz) ((RN.out.1.below h1).mono hz) ((RN.out.2.1.below h1).mono hz) ((RN.out.2.2.1.below h1).mono hz) ((RN.out.2.2.2.below h1).mono hz) hts hto hns hno hf ha hl
 have CS:Hid (∀ (nm:ByteArray),nm.size≤1048576→∀ W:World,OI W0 W0 W→Calls Tryz.prog 9 #[.agg (t,A4,C4,A5,C5),.agg (n,A0,C0,A1,C1,A2,C2,A3,C3),IQ nm,J f,J ab] W (fun e w'=>∃ a0_0 c0_0 fp0,e=.returned (.tuple #[IZ a0_0 (zb4 t n nm f ab).1.length c0_0,J (zb4 t n nm f ab).2])∧OI W W w'∧Own w' (zam (zb4 t n nm f ab).1) (IZ a0_0 (zb4 t n nm f ab).1.length c0_0) fp0∧In W w'.heap.size fp0)):=fun nm hnm W hW =>
  have h1:=b0_.trans (hW.mono b0_.size);have hz:=h1.size
  iSectorLevels_std t n nm f ab _ _ _ _ _ _ W (HL0.out.mono hW) ((RT.out.1.below h1).mono hz) ((RT.out.2.below h1).mono hz) ((RN.out.1.below h1).mono hz) ((RN.out.2.1.below h1).mono hz) ((RN.out.2.2.1.below h1).mono hz) ((RN.out.2.2.2.below h1).mono hz) hts hto hns hno hnm hf ha
 obtain⟨_,_,_,_,_,hcs⟩:=DSector.rd RN.out.2.1;have HSC:=IJ hcs;clear hcs k0 k1 b0_ HL HL0 hto hts hno hns RT B1;obtain⟨t0,t1,t2,t3,t4,t5,t6,t7,t8⟩:=HD.out _ HB.out;go_wp2_with (fail)
 go_at_call 8
 refine (CE.out _ HB.out).mono ?_;rintro e w2 ⟨a6,c6,a7,c7,fp7,rfl,hb_,ho_,hi_⟩;have OV:=IJ ho_;have IV:=IJ hi_;replace HB:=btr HB hb_;have z2:=hb_.size;clear hb_ ho_ hi_ CE t0 t1 t2 t3 t4 t5 t6 t7 t8;obtain⟨t0,t1,t2,t3,t4,t5,t6,t7,t8⟩:=HD.out _ HB.out
 rcases cov_two t n f ab le with ⟨c,hc,e1⟩|⟨hT,hV,hF,hA,hE,e1,hsec⟩
 ·simp only[e1]
  have d1:(c == 0)=false:=beq_eq_false_iff_ne.2 hc;have BW2:=IJ (BW0.out.trans (HB.out.mono BW0.out.size));clear OV IV CS HSC e1 hc;go_wp2;go_ret;exact⟨rfl,BW2.out.alloc (by have:=BW2.out.size;omega) _⟩
 have hsz:=terr_size hT;obtain⟨gN1,gN2,gN3⟩:=gridN_eq (terrB_ok hT);have hfew:=net_few24 hV;have HNM:Hid (∀ k,k<n.sectors.length→(zad n.sectors k).name.size≤1048576):=fun k hk=>sector_small hV hk
 have HRW:=rows_cov t hV f (zaq.1 hA);have hK:=covL_len t n f ab;rw[← hK] at e1;rw[e1] at OV;simp only[e1,rasC];simp only[zda,zei];have HCT:Hid (∀ k,k<n.sectors.length→(covL t n f ab).take (k+1)=(covL t n f ab).take k++[zdg t n (zad n.sectors k) f ab]):=fun k hk=>covL_take t n f ab hk
 have HGL:Hid (∀ k:Nat,(zdg t n (zad n.sectors k) f ab).length=zcf t):=fun k=>ze9 _ _ _ _ _
 have HSEC:=IJ hsec;have OV2:Hid (OwnV w2 [intT t.step,intT t.width,intT t.height,zam (srvC (covL t n f ab) le (zcf t) (covL t n f ab).length),zam (lvlC (covL t n f ab) le (zcf t) (covL t n f ab).length)] [J t.step,J t.width,J t.height,IZ a6 (srvC (covL t n f ab) le (zcf t) (covL t n f ab).length).length c6,IZ a7 (lvlC (covL t n f ab) le (zcf t) (covL t n f ab).length).length c7] fp7):=OV;simp only[zda,zei] at OV2;have RR:=IJ (rd_ras OV2.out IV.out);clear hT hV hF hA e1 hsec OV IV OV2 gN1;generalize covL t n f ab=CM at *;generalize zcf t=N at *;go_upto_region 7 with (fail);obtain⟨W3,hW3,b3_,z3,k3⟩:=zav w2 #[J t.step,J t.width,J t.height,IZ a6 N c6,IZ a7 N c7] 36;rw[hW3];clear hW3;have HD3:=IJ (fun (W:World) (hW:OI W3 W3 W)=>by5 k3 hW);have K3:=IJ k3;have R6:Hid (Rd W3 W3 (zam (srvC CM le N CM.length)) (IZ a6 N c6)):=(RR.out.1.below b3_).mono b3_.size;have R7:Hid (Rd W3 W3 (zam (lvlC CM le N CM.length)) (IZ a7 N c7)):=(RR.out.2.below b3_).mono b3_.size;replace HB:=btr HB b3_;have z32:=b3_.size;clear b3_ k3 RR t0 t1 t2 t3 t4 t5 t6 t7 t8;obtain⟨t0,t1,t2,t3,t4,t5,t6,t7,t8⟩:=HD.out _ HB.out;go_upto_region 8 with (fail);clear t0 t1 t2 t3 t4 t5 t6 t7 t8;have HG0:Hid (Grow (W3.alloc (.cells #[] 24)) W3.heap.size 24 1 (IZ (some ⟨W3,0,none⟩) 0 0) 0 [] []):=⟨⟨[],ze6 W3 24 1,rfl⟩,List.nodup_nil,fun b h=>by simp at h,fun g _=>by simp⟩
 have HW4:Hid (OI W3 W3 (W3.alloc (.cells #[] 24))):=zao _ _;generalize W3.alloc (.cells #[] 24)=w4 at *;go_wp2;go_loopw [10,11] (fun os ki wr=>∃ (k:Nat) (fr:List Nat),k≤n.sectors.length∧ki=J (k:Int)∧OI W3 W3 wr∧Grow wr W3.heap.size 24 1 os k ((CM.take k).map zam) fr∧In W3 wr fr) (fun os ki wr=>n.sectors.length-(intOf ki).toNat)
 case atStart=>exact⟨0,[],Nat.zero_le _,rfl,HW4.out,by simpa using HG0.out,In.nil⟩
 case round =>
  obtain⟨k,fr,hk,rfl,hbw,hgr,hin⟩:=hrel;obtain⟨xs_,ho_,_⟩:=hgr.own;obtain⟨aw,cw,ev,_⟩:=zaw ho_;subst ev;clear ho_;have GOB:=IJ (fun y hy=>hgr.block (g:=y) hy);have HBw:=IJ hbw;have HG:=IJ hgr;have HI:=IJ hin;have zr:=hbw.size;have HBr:=btr HB hbw;clear hbw hgr hin HG0 HW4;have k0:(0:Int)≤(k:Int):=II
  have hfew2:(n.sectors.length:Int)≤24:=II
  obtain⟨t0,t1,t2,t3,t4,t5,t6,t7,t8⟩:=HD.out _ HBr.out
  by_cases hlt:k<n.sectors.length
  case pos =>
   have k1:(k:Int)<(n.sectors.length:Int):=II
   have CSk:=IJ (CS.out _ (HNM.out k hlt));rw[HSEC.out k hlt] at CSk;simp only[HGL.out k] at CSk;have HCk:=IJ (HCT.out k hlt);obtain⟨b,off,rfl,hb,hat⟩:=HSC.out II;obtain⟨s0,_⟩:=hat k hlt;rw[za3 hlt] at s0;have HNk:Hid (∀ W:World,OI W0 W0 W→W.cell? ⟨b,off+k*9,none⟩=some (IQ (zad n.sectors k).name)):=fun W hW=>(bat (B01.out.trans (hW.mono B01.out.size)) b _ hb).trans s0
   clear hat s0 HSC CS HNM HSEC HCT R6 R7 HD3 K3 HRW hE;have hrl:=HGL.out k;clear HGL;generalize zdg t n (zad n.sectors k) f ab=row at *;generalize (zad n.sectors k).name=nm at *;go_upto_region 11 with (fail);have hnm:=HNk.out _ HBr.out;refine zbj 16 [(0,true),(1,true),(2,true),(3,true),(4,true),(5,true),(6,true),(7,true),(8,true),(9,true),(10,false),(11,true),(12,true),(13,true),(14,true),(15,true)] (fun W=>OI W0 W0 W) JI JI HBr.out.drew (fun hHeld=>?_);have HBd:=IJ HBw.out.drew;have HGd:=IJ (show Grow wr.drew W3.heap.size 24 1 (IZ aw k cw) k ((CM.take k).map zam) fr from HG.out.frame (fun _ _=>rfl) (fun _ _=>rfl));have HId:=IJ (show In W3 wr.drew.heap.size fr from HI.out);have HBrd:=btr HB HBd.out;have zrd:W3.heap.size≤wr.drew.heap.size:=zr;have zrw:wr.drew.heap.size=wr.heap.size:=rfl;have YD:Hid (OI wr.drew.heap.size wr.drew wr.drew):=Below.refl _ _;clear t0 t1 t2 t3 t4 t5 t6 t7 t8 hnm HBw HG HBr HI zr;generalize wr.drew=Y0 at *;clear hHeld
   iterate 10 (refine zaj (v:=?_) rfl (fun _ _ _ h=>h) ?_ ?_;rotate_left;focus (intro W hSW;(try dsimp only at hSW);obtain⟨t0,t1,t2,t3,t4,t5,t6,t7,t8⟩:=HD.out W hSW;have hnm:=HNk.out W hSW;(go_simp<;>with_reducible rfl));(try simp only[Act.put,OO,OJ,OQ]))
   refine zbd rfl (fun K hK=>?_);go_simp;refine (CSk.out _ HBrd.out).mono ?_;rintro e w6 ⟨a8,c8,f8,rfl,hb_,ho_,hi_⟩;have OVr:=IJ ho_;have IVr:=IJ hi_;have HG6:=IJ (HGd.out.below HId.out hb_);have HI6:=IJ (HId.out.mono (Nat.le_refl _) hb_.size);have HB6:=btr HBd hb_;have z6:=hb_.size;have hki:(k:Int)≤24:=II
   refine hK.out _ _ (btr HBrd hb_).out ?_;clear hb_ ho_ hi_ CSk HBrd YD HGd hK K
   (try simp only[Act.put,OO,OJ,OQ])
   iterate 5 (refine zaj (v:=?_) rfl (fun _ _ _ h=>h) ?_ ?_;rotate_left;focus (intro W hSW;(try dsimp only at hSW);obtain⟨t0,t1,t2,t3,t4,t5,t6,t7,t8⟩:=HD.out W hSW;have hnm:=HNk.out W hSW;(go_simp<;>with_reducible rfl));(try simp only[Act.put,OO,OJ,OQ]))
   refine zcp ?_;simp only[List.drop_succ_cons,List.drop_zero]
   (try simp only[Act.put,OO,OJ,OQ])
   go_wp2_with (at_builtin;refine zax rfl (.tmp 76) (.tmp 78) _ rfl W3.heap.size 24 i0 _ 1 24 Tryz.underlying39 hi0 hz0 hz1 hz2 rfl II _ _ _ fr rfl HG6.out [IZ a8 N c8] [zam row] f8 rfl 1 rfl (fun u hu=>by simp at hu;subst hu;rfl) (RepV.one OVr.out.rep) OVr.out.nd OVr.out.free W3.heap.size HI6.out (IVr.out.mono II (Nat.le_refl _)) (fun y h1 h2=>by have:=IVr.out y h1;have:=HId.out y h2;omega) (fun y hy h2=>by have:=IVr.out y h2;have:=GOB.out y hy;omega) Q3v II II ?_;intro v9 w9 hgn;(have HGN:=IJ hgn);clear hgn);go_roundw
   case rel =>
    refine⟨k+1,fr++f8,II,by go_num,HB6.out.trans (HGN.out.below.mono II),?_,(In.app HId.out IVr.out II II).mono (Nat.le_refl _) (by have:=HGN.out.size;omega)⟩;rw[HCk.out,List.map_append];exact HGN.out.grow
   case measure=>simp only[intOf];omega
  obtain rfl:k=n.sectors.length:=II
  have hki:¬ (n.sectors.length:Int)<(n.sectors.length:Int):=II
  rw[List.take_of_length_le (by rw[hK];exact Nat.le_refl _)] at HG;obtain⟨av,cv,fv,ev,ov,iv⟩:=HG.out.toOwn (lo:=W3.heap.size) II HI.out (Nat.le_refl _);injection ev with ev1 _ ev3;subst ev1 ev3;have hcm:CM.length≤24:=II
  have RM:Hid (Rd wr wr (intssT CM) (IZ aw n.sectors.length cw)):=ov.rd iv;have CB:Hid (∀ (l2:Int),inB l2 (-300000) 300000=true→∀ W:World,OI wr wr W→Calls Tryz.prog 10 #[J t.step,J t.width,J t.height,IZ aw n.sectors.length cw,J l2] W fun e w'=>∃ (a0:Option Addr) (c0:Nat) (a1:Option Addr) (c1:Nat) (fp:List Nat),e=.returned (.tuple #[.agg #[J t.step,J t.width,J t.height,IZ a0 N c0,IZ a1 N c1],J 0])∧OI W W w'∧OwnV w' [zam (srvC CM l2 N CM.length),zam (lvlC CM l2 N CM.length)] [IZ a0 N c0,IZ a1 N c1] fp∧In W w'.heap.size fp):=fun l2 hl2 W hW =>
   bestServers_ok t.step t.width t.height l2 CM N hsz hl2 gN3 gN2 HRW hcm _ W ((RM.out.below hW).mono hW.size)
  have RO:Hid (∀ l2:Int,RasOk t.step t.width t.height (srvC CM l2 N CM.length) (lvlC CM l2 N CM.length)):=fun l2=>ras_ok HRW hsz gN3 hcm l2
  have HLE:Hid (∀ i,i<N→0≤gi (srvC CM le N CM.length) i→le≤gi (lvlC CM le N CM.length) i):=fun i hi hs=>ras_level HRW le hi hs
  have HMO:=IJ (fun h=>ras_more (m:=CM) (N:=N) le (le+5000) h);have HL1:Hid (∀ l2:Int,(srvC CM l2 N CM.length).length=N):=fun l2=>zda _ _ _ _
  have HL2:Hid (∀ l2:Int,(lvlC CM l2 N CM.length).length=N):=fun l2=>zei _ _ _ _
  have CBl:=IJ (CB.out le hE);clear ov iv HG HI HSC CS HNM HSEC HCT HGL GOB RM HRW;go_wp2_with (fail)
  go_at_call 10
  refine (CBl.out _ (Below.refl _ _)).mono ?_;rintro e w7 ⟨a9,c9,a10,c10,f9,rfl,hb_,ho_,hi_⟩;have R2:=IJ (rd_two ho_ hi_);have HB7:=btr HBw hb_;have HBr7:=btr HBr hb_;have HBm:=IJ hb_;have z7:=hb_.size;clear hb_ ho_ hi_ CBl HBw HBr t0 t1 t2 t3 t4 t5 t6 t7 t8;go_upto_region 16 with (fail);obtain⟨W8,hW8,b8_,z8,k8⟩:=zav w7 #[J t.step,J t.width,J t.height,IZ a9 N c9,IZ a10 N c10] 36;rw[hW8];clear hW8;have HD8:=IJ (fun (W:World) (hW:OI W8 W8 W)=>by5 k8 hW);have h38:=btr HB7 b8_;have zN:(N:Int)≤576:=II
  have CSame:Hid (∀ W:World,OI W8 W8 W→Calls Tryz.prog 11 #[.agg #[J t.step,J t.width,J t.height,IZ a6 N c6,IZ a7 N c7],.agg #[J t.step,J t.width,J t.height,IZ a9 N c9,IZ a10 N c10]] W fun e w'=>e=.returned (.bool true)∧OI W W w'):=fun W hW=>by
   have h3:=h38.out.trans (hW.mono h38.out.size);have h8:=b8_.trans (hW.mono b8_.size);exact sameRaster_true t.step t.width t.height (srvC CM le N CM.length) (lvlC CM le N CM.length) _ _ _ _ W ((R6.out.below h3).mono h3.size) ((R7.out.below h3).mono h3.size) ((R2.out.1.below h8).mono h8.size) ((R2.out.2.below h8).mono h8.size) (by rw[HL1.out];omega) (by rw[HL2.out];omega)
  have CVal:Hid (∀ W:World,OI W8 W8 W→Calls Tryz.prog 12 #[.agg #[J t.step,J t.width,J t.height,IZ a6 N c6,IZ a7 N c7]] W fun e w'=>e=.returned (.bool true)∧OI W W w'):=fun W hW=>by
   have h3:=h38.out.trans (hW.mono h38.out.size);exact zd9 t.step t.width t.height (srvC CM le N CM.length) (lvlC CM le N CM.length) _ _ W ((R6.out.below h3).mono h3.size) ((R7.out.below h3).mono h3.size) (RO.out le) (by rw[HL1.out];omega)
  have HBr8:=btr HBr7 b8_;have HBm8:=btr HBm b8_;have H8:Hid (OI W8 W8 W8):=Below.refl _ _;clear b8_ k8 R2 HB7 HBr7 HBm;obtain⟨d0,d1,d2,d3,d4⟩:=HD3.out _ h38.out;obtain⟨e0,e1,e2,e3,e4⟩:=HD8.out _ H8.out;go_wp2_with (fail)
  go_at_call 11
  refine (CSame.out _ H8.out).mono ?_;rintro e w9 ⟨rfl,hb_⟩;have H9:=btr H8 hb_;clear hb_ d0 d1 d2 d3 d4 e0 e1 e2 e3 e4 CSame;obtain⟨d0,d1,d2,d3,d4⟩:=HD3.out _ (btr h38 H9.out).out;go_wp2_with (fail)
  go_at_call 12
  refine (CVal.out _ H9.out).mono ?_;rintro e w10 ⟨rfl,hb_⟩;have H10:=btr H9 hb_;clear hb_ d0 d1 d2 d3 d4 CVal HD8 H9 H8;have H3x:=btr h38 H10.out;have HBrx:=btr HBr8 H10.out;have HBmx:=btr HBm8 H10.out;clear h38 HBr8 HBm8 H10;have zx:=HBmx.out.size;clear z8;obtain⟨d0,d1,d2,d3,d4⟩:=HD3.out _ H3x.out;go_wp2;clear d0 d1 d2 d3 d4;generalize wr=wq at *;have HSV:Hid (∀ i,i<N→∃ x3 o3 x4 o4:Nat,a6=some ⟨x3,o3,none⟩∧a7=some ⟨x4,o4,none⟩∧∀ W:World,OI W3 W3 W→(W,x3,o3+i,J (gi (srvC CM le N CM.length) i))∧(W,x4,o4+i,J (gi (lvlC CM le N CM.length) i))):=fun i hi=>by
   obtain⟨s3,m3,e3,_,_,hc3⟩:=R6.out.ints;obtain⟨s4,m4,e4,_,_,hc4⟩:=R7.out.ints;injection e3 with e3 _ _;injection e4 with e4 _ _;subst e3 e4;obtain⟨x3,o3,rfl,l3,g3⟩:=hc3 (by rw[HL1.out];omega);obtain⟨x4,o4,rfl,l4,g4⟩:=hc4 (by rw[HL2.out];omega);refine⟨x3,o3,x4,o4,rfl,rfl,fun W hW=>⟨?_,?_⟩⟩
   ·rw[bat hW x3 _ l3,g3 i (by rw[HL1.out];exact hi),gi_eq]
   ·rw[bat hW x4 _ l4,g4 i (by rw[HL2.out];exact hi),gi_eq]
  obtain⟨le0,le1⟩:=zaq.1 hE;go_loopw [16] (fun ki wr=>∃ i:Nat,i≤N∧ki=J (i:Int)∧OI w10 w10 wr) (fun ki wr=>N-(intOf ki).toNat)
  case atStart=>exact⟨0,Nat.zero_le _,rfl,Below.refl _ _⟩
  case round =>
   obtain⟨i,hi,rfl,hbw⟩:=hrel;have HBw:=IJ hbw;have H3w:=btr H3x hbw;have HBmw:=btr HBmx hbw;have HBrw:=btr HBrx hbw;have zw:=HBmw.out.size;clear hbw HBmx HBrx;have j0:(0:Int)≤(i:Int):=II
   obtain⟨d0,d1,d2,d3,d4⟩:=HD3.out _ H3w.out
   by_cases hlt:i<N
   case pos =>
    have j1:(i:Int)<(N:Int):=II
    obtain⟨x3,o3,x4,o4,rfl,rfl,hc⟩:=HSV.out i hlt;obtain⟨g3,g4⟩:=hc _ H3w.out;have hle:=HLE.out i hlt;clear hc HSV R6 R7 HD3 HMO RO HLE CB HL1 HL2;generalize gi (srvC CM le N CM.length) i=sv at *;generalize gi (lvlC CM le N CM.length) i=lv at *
    by_cases hs:0≤sv
    ·have hl:=hle hs
     have f1:decide (0≤sv)=true:=decide_eq_true hs;have f2:decide (lv<le)=false:=decide_eq_false II;clear hle;go_wp2;go_roundw
     case rel=>exact⟨i+1,II,by go_num,HBw.out⟩
     case measure=>simp only[intOf];omega
    ·have f1:decide (0≤sv)=false:=decide_eq_false hs
     clear hle;go_wp2;go_roundw
     case rel=>exact⟨i+1,II,by go_num,HBw.out⟩
     case measure=>simp only[intOf];omega
   have hiN:i=N:=II
   rw[hiN];clear hiN hi hlt j0 HSV HLE;have hki:¬ (N:Int)<(N:Int):=II
   by_cases h29:(290000:Int)<le
   ·have f1:decide ((290000:Int)<le)=true:=decide_eq_true h29
    clear R6 R7 HD3 HMO RO CB HL1 HL2;go_wp2;go_ret;exact⟨rfl,BW0.out.trans (HBrw.out.mono BW0.out.size)⟩
   have f1:decide ((290000:Int)<le)=false:=decide_eq_false h29;have CBl:=IJ (CB.out (le+5000) (zaq.2 ⟨II,II⟩));clear CB;clear d0 d1 d2 d3 d4;obtain⟨t0,t1,t2,t3,t4,t5,t6,t7,t8⟩:=HD.out _ HBrw.out;obtain⟨d0,d1,d2,d3,d4⟩:=HD3.out _ H3w.out;go_wp2_with (fail)
   go_at_call 10
   refine (CBl.out _ HBmw.out).mono ?_;rintro e w11 ⟨a11,c11,a12,c12,f11,rfl,hb_,ho_,hi_⟩;have R3:=IJ (rd_two ho_ hi_);have H3y:=btr H3w hb_;have HBry:=btr HBrw hb_;have z11:=hb_.size;clear hb_ ho_ hi_ CBl t0 t1 t2 t3 t4 t5 t6 t7 t8 d0 d1 d2 d3 d4 HBmw H3w HBrw HBw;go_upto_region 26 with (fail);obtain⟨W9,hW9,b9_,z9,k9⟩:=zav w11 #[J t.step,J t.width,J t.height,IZ a11 N c11,IZ a12 N c12] 36;rw[hW9];clear hW9;have HD9:=IJ (fun (W:World) (hW:OI W9 W9 W)=>by5 k9 hW);have h39:=btr H3y b9_;have HBr9:=btr HBry b9_;have CC:Hid (∀ W:World,OI W9 W9 W→Calls Tryz.prog 13 #[.agg #[J t.step,J t.width,J t.height,IZ a6 N c6,IZ a7 N c7],.agg #[J t.step,J t.width,J t.height,IZ a11 N c11,IZ a12 N c12]] W fun e w'=>∃ n:Int,e=.returned (.tuple #[.agg #[J 0,J n,J 0,J 0,J 0],J 0])∧OI W W w'):=fun W hW=>by
    have h3:=h39.out.trans (hW.mono h39.out.size);have h9:=b9_.trans (hW.mono b9_.size);have h:=compare_less t.step t.width t.height (srvC CM le N CM.length) (lvlC CM le N CM.length) (srvC CM (le+5000) N CM.length) (lvlC CM (le+5000) N CM.length) _ _ _ _ W ((R6.out.below h3).mono h3.size) ((R7.out.below h3).mono h3.size) ((R3.out.1.below h9).mono h9.size) ((R3.out.2.below h9).mono h9.size) (RO.out le) (RO.out (le+5000)) (by rw[HL1.out];omega) (by rw[HL1.out,HL1.out]) (HMO.out II);exact h
   have H9:Hid (OI W9 W9 W9):=Below.refl _ _;obtain⟨d0,d1,d2,d3,d4⟩:=HD3.out _ h39.out;obtain⟨e0,e1,e2,e3,e4⟩:=HD9.out _ H9.out;clear b9_ k9 H3y HBry;go_wp2_with (fail)
   go_at_call 13
   refine (CC.out _ H9.out).mono ?_;rintro e w12 ⟨nn,rfl,hb_⟩;have HBrz:=btr HBr9 hb_;clear d0 d1 d2 d3 d4 e0 e1 e2 e3 e4 CC HD9 HD3 H9 h39 HBr9 R3 R6 R7 RO HL1 HL2 HMO hb_ z9 z11;go_upto_region 27 with (fail);obtain⟨W13,hW13,b13_,z13,k13⟩:=zav w12 #[J 0,J nn,J 0,J 0,J 0] 48;rw[hW13];clear hW13;obtain⟨d0,d1,d2,d3,d4⟩:=by5 k13 (Below.refl _ _);have HBf:=btr HBrz b13_;clear k13 b13_ z13 HBrz;go_wp2;go_ret;exact⟨rfl,BW0.out.trans (HBf.out.mono BW0.out.size)⟩
end Go.Proofs.YtpakghepnahooaaGreatDoor.fnCoverage
