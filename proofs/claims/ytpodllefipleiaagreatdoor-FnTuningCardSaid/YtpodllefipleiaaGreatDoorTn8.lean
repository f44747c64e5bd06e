/- Contract: the deviation of samples from a fit, by the program. Conditions: valid samples, at least one; the library's table holds what it holds at the start. -/
import Derived.Test.YtpodllefipleiaaGreatDoorTn7
set_option linter.unusedVariables false
set_option linter.unusedSimpArgs false
namespace Go.Proofs.YtpodllefipleiaaGreatDoor
open Go.RowKit
set_option maxHeartbeats 16000000
set_option maxRecDepth 100000
def difs (l:List DSample) (o s:Int):List Int:=l.map fun x=>difF o s (lgI x.distance,x.level)
theorem difs_sum (l:List DSample) (o s:Int):sumM (difs l o s) (fun x=>x*x)=sumM (pts l) (fun x=>difF o s x*difF o s x):=by
 unfold difs pts sumM;rw[List.map_map,List.map_map]
 rfl
theorem difs_succ (l:List DSample) (o s:Int) (k:Nat) (h:k<l.length):difs (l.take (k+1)) o s=difs (l.take k) o s++[difF o s (lgI l[k].distance,l[k].level)]:=by
 unfold difs;rw[List.take_succ_eq_append_getElem h,List.map_append]
 rfl
theorem devF_eq (l:List DSample) (o s:Int):devF (pts l) o s=isq (sumM (difs l o s) (fun x=>x*x) / ((difs l o s).length:Int)):=by
 unfold devF;rw[difs_sum,pts_len];unfold difs;rw[List.length_map]
def ResP (l:List DSample) (o s:Int) (w:World) (e:Ending) (w':World):Prop:=∃ x c:Int,(0≤x∧x≤30000000)∧e=.returned (.tuple #[.int .i64 x,.int .i64 c])∧(c=0→x=devF (pts l) o s)∧(fitB o s=true→c=0)∧Below w.heap.size w w'
theorem infoI64R:(Tryz.prog.info? 2).map (fun i=>(i.zero,i.size,i.bytes))=some (some (.int .i64 0),1,8):=by kernel_rfl
theorem residualOf_any (l:List DSample) (o s:Int) (v:Value) (w:World) (L:LibW w) (h:Rd w.heap.size w (DSample.sT l) v) (hv:za9 l=true) (h1:1≤l.length):Calls Tryz.prog 9 #[v,.agg #[.int .i64 o,.int .i64 s]] w (ResP l o s w):=by
 have hv2:=smpsB_bd hv;have h64:=hv2.1;have HV:=Lib.hid fun (W:World) (hW:Below w.heap.size w W)=>hv ▸ zau l v w.heap.size W (h.below hW) hW.size (by omega)
 obtain⟨a,c,rfl,hnc,hcm,hcl⟩:=DSample.rd h;obtain⟨b,off,rfl,hbl,hat⟩:=hcl (by omega);have HA:=Lib.hid hat;have HL:=Lib.hid L;have HB:=Lib.hid hv2.2;obtain⟨j0,hj0,hy0,hy1,hy2⟩:=info_partsS infoI64R;clear h hcl hat L hv2 hv;have n1:((l.length:Int) == 0)=false:=by rw[beq_eq_false_iff_ne];omega
 go_enter Tryz.func9,Tryz.ntmps9;go_upto_region 1 with (fail);obtain⟨W0,hW0,b0,z0,k0⟩:=zbi w #[.int .i64 o,.int .i64 s] 27;rw[hW0];clear hW0;have B0:=Lib.hid b0;have K0:=Lib.hid k0;clear b0 k0;have CV:Hid (∀ W:World,Calls Tryz.prog 27 #[.agg #[.int .i64 o,.int .i64 s]] W fun e w'=>e=.returned (.bool (fitB o s))∧Below W.heap.size W w'):=fun W=>zbg o s W
 go_wp2_with (fail)
 go_at_call 24
 refine (HV.out W0 B0.out).mono ?_;rintro e W1 ⟨rfl,b1⟩;have z1:=b1.size;have B1:=Lib.hid (B0.out.trans (b1.mono (by omega)));have K1:=Lib.hid (bkB K0.out b1 (by omega));clear b1 K0 B0 HV;have q0:=bkC K1.out 0 rfl;have q1:=bkC K1.out 1 rfl;go_wp2_with (fail)
 go_at_call 27
 refine (CV.out W1).mono ?_;rintro e W2 ⟨rfl,b2⟩;have z2:=b2.size;have B2:=Lib.hid (B1.out.trans (b2.mono (by omega)));have K2:=Lib.hid (bkB K1.out b2 (by omega));clear b2 K1 B1 q0 q1 CV
 by_cases hf:fitB o s=true
 case neg =>
  have hf':fitB o s=false:=Bool.eq_false_iff.2 hf;have HF:=Lib.hid hf';rw[hf'];clear hf hf';go_wp2;go_ret2;exact⟨0,1,by omega,rfl,fun h=>by omega,fun h=>(by rw[HF.out] at h;cases h),B2.out⟩
 rw[hf];have HF:=Lib.hid hf;clear hf;go_wp2;go_loopw [6,24] (fun v i wr=>∃ k:Nat,k≤l.length∧i=.int .i64 k∧Below W2.heap.size W2 wr∧Grow wr W2.heap.size 2 1 v k ((difs (l.take k) o s).map intT) []) (fun _ i wr=>l.length-(intOf i).toNat)
 case atStart=>exact⟨0,Nat.zero_le _,rfl,Below.refl _ _,by simpa [difs] using Grow.nil⟩
 case round =>
  obtain⟨k,hk,rfl,hb,hgr⟩:=hrel;have zr:=hb.size;have HBR:=Lib.hid hb;have HBW:=Lib.hid (B2.out.trans (hb.mono (by omega)));have HG:=Lib.hid hgr;clear hb hgr
  by_cases hlt:k<l.length
  ·obtain⟨s0,s1⟩:=HA.out k hlt
   rw[← bat HBW.out b _ hbl] at s0 s1;have hsb:=smpB_bd (HB.out l[k] (List.getElem_mem hlt));obtain⟨⟨d0,d1⟩,⟨e0,e1⟩⟩:=hsb;have HSS:=Lib.hid (difs_succ l o s k hlt);have hpt:=ptB_of (HB.out l[k] (List.getElem_mem hlt));obtain⟨_,_,⟨v0,v1⟩⟩:=levF_bd (d:=lgI l[k].distance) HF.out hpt.1.1 hpt.1.2;have CL:Hid (∀ W:World,LibW W→Calls Tryz.prog 29 #[.agg #[.int .i64 o,.int .i64 s],.int .i64 l[k].distance] W fun e w'=>e=.returned (.int .i64 (levF o s (lgI l[k].distance)))∧Below W.heap.size W w'):=fun W hW=>fitLevel_any o s _ HF.out d0 d1 W hW
   have HDE:Hid (difF o s (lgI l[k].distance,l[k].level)=l[k].level-levF o s (lgI l[k].distance)):=rfl;clear hpt;generalize difF o s (lgI l[k].distance,l[k].level)=DE at *;generalize levF o s (lgI l[k].distance)=LV at *;generalize l[k].distance=dd at *;generalize l[k].level=ll at *;have yb:b<wr.heap.size:=by have:=HBW.out.size;omega
   go_upto_region 9 with (fail);obtain⟨W3,hW3,b3,z3,k3⟩:=zbi wr #[.int .i64 dd,.int .i64 ll] 41;rw[hW3];clear hW3;have r0:=bkC (v:=.int .i64 dd) k3 0 rfl;have r1:=bkC (v:=.int .i64 ll) k3 1 rfl;have HBR3:=Lib.hid (HBR.out.trans (b3.mono zr));have HL3:=Lib.hid (HL.out.mono (HBW.out.trans (b3.mono HBW.out.size)));have HG3:=Lib.hid (HG.out.below (lo:=0) In.nil b3);have kf:=bkB K2.out HBR3.out (by omega);have q0:=bkC kf 0 rfl;have q1:=bkC kf 1 rfl;have hwr:IntKind.i64.wrap (ll-LV)=ll-LV:=IntWalk.i64_in _ (by omega);have HS3:Hid (∀ W,Below W3.heap.size W3 W→W.cell? ⟨w.heap.size,0,none⟩=some (.int .i64 o)∧W.cell? ⟨w.heap.size,1,none⟩=some (.int .i64 s)∧W.cell? ⟨wr.heap.size,0,none⟩=some (.int .i64 dd)∧W.cell? ⟨wr.heap.size,1,none⟩=some (.int .i64 ll)):=fun W hW=>⟨bkC (bkB kf hW (by omega)) 0 rfl,bkC (bkB kf hW (by omega)) 1 rfl,bkC (bkB k3 hW (by omega)) 0 rfl,bkC (bkB k3 hW (by omega)) 1 rfl⟩
   clear b3 k3 kf s0 s1 q0 q1 r0 r1;refine wp_region_ord 9 [(0,true),(1,true),(2,true),(3,true),(4,true),(5,true),(6,false),(7,true),(8,false)] (fun W=>W.cell? ⟨w.heap.size,0,none⟩=some (.int .i64 o)∧W.cell? ⟨w.heap.size,1,none⟩=some (.int .i64 s)∧W.cell? ⟨wr.heap.size,0,none⟩=some (.int .i64 dd)∧W.cell? ⟨wr.heap.size,1,none⟩=some (.int .i64 ll)) (by kernel_rfl) (by kernel_rfl) (HS3.out _ (za4 _)) (fun hHeld=>?_);refine zaf (v:=?_) rfl (fun _ _ _ h=>h) ?_ ?_
   rotate_left
   ·(intro W hSW;(try dsimp only at hSW);(try obtain⟨hs0,hs1,hs2,hs3⟩:=hSW);(go_simp<;>with_reducible rfl))
   (try simp only[Act.put,List.setIfInBounds_toArray,List.set_cons_zero,List.set_cons_succ])
   refine zaf (v:=?_) rfl (fun _ _ _ h=>h) ?_ ?_
   rotate_left
   ·(intro W hSW;(try dsimp only at hSW);(try obtain⟨hs0,hs1,hs2,hs3⟩:=hSW);(go_simp<;>with_reducible rfl))
   (try simp only[Act.put,List.setIfInBounds_toArray,List.set_cons_zero,List.set_cons_succ])
   refine zaf (v:=?_) rfl (fun _ _ _ h=>h) ?_ ?_
   rotate_left
   ·(intro W hSW;(try dsimp only at hSW);(try obtain⟨hs0,hs1,hs2,hs3⟩:=hSW);(go_simp<;>with_reducible rfl))
   (try simp only[Act.put,List.setIfInBounds_toArray,List.set_cons_zero,List.set_cons_succ])
   refine zaf (v:=?_) rfl (fun _ _ _ h=>h) ?_ ?_
   rotate_left
   ·(intro W hSW;(try dsimp only at hSW);(try obtain⟨hs0,hs1,hs2,hs3⟩:=hSW);(go_simp<;>with_reducible rfl))
   (try simp only[Act.put,List.setIfInBounds_toArray,List.set_cons_zero,List.set_cons_succ])
   refine zaf (v:=?_) rfl (fun _ _ _ h=>h) ?_ ?_
   rotate_left
   ·(intro W hSW;(try dsimp only at hSW);(try obtain⟨hs0,hs1,hs2,hs3⟩:=hSW);(go_simp<;>with_reducible rfl))
   (try simp only[Act.put,List.setIfInBounds_toArray,List.set_cons_zero,List.set_cons_succ])
   refine zaf (v:=?_) rfl (fun _ _ _ h=>h) ?_ ?_
   rotate_left
   ·(intro W hSW;(try dsimp only at hSW);(try obtain⟨hs0,hs1,hs2,hs3⟩:=hSW);(go_simp<;>with_reducible rfl))
   (try simp only[Act.put,List.setIfInBounds_toArray,List.set_cons_zero,List.set_cons_succ])
   have HBD:=Lib.hid ((za4 W3).mono (Nat.le_refl _));have hzd:W3.heap.size≤W3.drew.heap.size:=Nat.le_refl _;have HSD:Hid (∀ W,Below W3.drew.heap.size W3.drew W→W.cell? ⟨w.heap.size,0,none⟩=some (.int .i64 o)∧W.cell? ⟨w.heap.size,1,none⟩=some (.int .i64 s)∧W.cell? ⟨wr.heap.size,0,none⟩=some (.int .i64 dd)∧W.cell? ⟨wr.heap.size,1,none⟩=some (.int .i64 ll)):=fun W hW=>HS3.out W ((za4 W3).trans (hW.mono hzd))
   clear hHeld;generalize W3.drew=w3 at *;refine zbm rfl (fun K hK=>?_);go_simp;refine (CL.out w3 (HL3.out.mono HBD.out)).mono ?_;rintro e w4 ⟨rfl,hb4⟩;refine hK.out _ _ (HSD.out _ hb4) ?_;clear hK K
   (try simp only[Act.put,List.setIfInBounds_toArray,List.set_cons_zero,List.set_cons_succ])
   have HB4:=Lib.hid hb4;clear hb4;refine zaf (v:=?_) rfl (fun _ _ _ h=>h) ?_ ?_
   rotate_left
   ·(intro W hSW;(try dsimp only at hSW);(try obtain⟨hs0,hs1,hs2,hs3⟩:=hSW);(go_simp<;>with_reducible rfl))
   (try simp only[Act.put,List.setIfInBounds_toArray,List.set_cons_zero,List.set_cons_succ])
   refine zbm rfl (fun K hK=>?_);go_simp;refine hK.out _ _ (HSD.out _ (HB4.out.trans ((zao w4 _).mono HB4.out.size))) ?_;clear hK K
   (try simp only[Act.put,List.setIfInBounds_toArray,List.set_cons_zero,List.set_cons_succ])
   refine wpOrd_nil ?_;simp only[List.drop_succ_cons,List.drop_zero];have hX:=HBD.out.trans (HB4.out.mono hzd);have z4:=hX.size;have HG4:=Lib.hid (HG3.out.below (lo:=0) In.nil hX);have HBR4:=Lib.hid (HBR3.out.trans (hX.mono (by omega)));clear hX HG3 HBR3 HL3 CL HS3 HSD HBD hwr;go_wp2_with (at_builtin;refine za6 rfl (.tmp 28) (.tmp 36) _ rfl W2.heap.size 2 j0 _ 1 8 Tryz.underlying65 hj0 hy0 hy1 hy2 rfl (by omega) _ _ _ [] rfl HG4.out [.int .i64 (ll-LV)] [intT (ll-LV)] [] rfl 1 rfl (fun x hx=>by simp at hx;rcases hx with rfl;rfl) (RepV_lits _ [.int .i64 (ll-LV)]) List.nodup_nil (fun b h=>by simp at h) 0 In.nil In.nil (by simp) (by simp) (by unfold maxLen;omega) (by omega) (by omega) ?_;intro v2 W5 hgn);have HGN:=Lib.hid hgn;clear hgn;go_wp2;go_roundw
   case rel=>exact⟨k+1,by omega,by go_num,HBR4.out.trans HGN.out.below,by rw[HSS.out,HDE.out,List.map_append];exact HGN.out.grow⟩
   case measure=>simp[intOf];omega
  ·obtain rfl:k=l.length:=by omega
   rw[List.take_length] at HG;have hlen:(difs l o s).length=l.length:=by unfold difs;rw[List.length_map]
   obtain⟨av,cv,fv,ev,ov,iv⟩:=HG.out.toOwn (lo:=W2.heap.size) (by omega) In.nil (by omega);subst ev;have hrd:Rd wr.heap.size wr (intsT (difs l o s)) (.slice av l.length cv):=ov.rd iv;have hdb:∀ x ∈ difs l o s,-2800001≤x∧x≤2800001:=fun x hx=>by
    obtain⟨y,hy,rfl⟩:=List.mem_map.1 hx;exact difF_bd HF.out (ptB_of (HB.out y hy))
   have CR:=Lib.hid (rootMean_any (difs l o s) _ wr hrd hdb (by omega) (by omega));rw[← devF_eq] at CR;have HBD:Hid (0≤devF (pts l) o s∧devF (pts l) o s≤30000000):=by
    show _∧_
    rw[devF_eq];have hs:=ints_sum_bd (difs l o s) hdb (by omega) (difs l o s).length;rw[List.take_length] at hs;have hle:=Int.ediv_le_self ((difs l o s).length:Int) hs.1;exact⟨zbq _,isq_le (by omega) (by omega)⟩
   clear hrd hdb ov iv HG hlen;generalize hdv:devF (pts l) o s=DV at *;have HDV:=Lib.hid hdv;clear hdv;go_wp2_with (go_at_call 30;refine CR.out.mono ?_;rintro e W6 ⟨rfl,hb6⟩);go_ret2;exact⟨DV,0,HBD.out,rfl,fun _=>HDV.out.symm,fun _=>rfl,HBW.out.trans (hb6.mono HBW.out.size)⟩
end Go.Proofs.YtpodllefipleiaaGreatDoor
