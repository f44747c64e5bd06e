/- Contracts of the laws' helpers over the type Mode and slices of it. Conditions: bounded lengths. -/
import Derived.Test.YtjfmkmcefnidcaaGreatSl
import Derived.Test.YtjfmkmcefnidcaaGreatTypes
import Derived.Test.YtjfmkmcefnidcaaGreatHArea
import Derived.Test.YtjfmkmcefnidcaaGreatOver
namespace Go.Proofs.YtjfmkmcefnidcaaGreat
set_option maxHeartbeats 4000000
set_option maxRecDepth 100000
open Go.RowKit
set_option linter.unusedVariables false
theorem to_Mode (x:DMode) (w:World) :
  Calls Tryz.prog 239 #[.agg #[.int .i64 x.need,.int .i64 x.rate]] w fun e w'=>e=.returned (.agg #[.int .i64 x.need,.int .i64 x.rate])∧Below w.heap.size w w':=by
 go_enter Tryz.func239,Tryz.ntmps239
 go_wp2
 exact bodyPost_ret (v:=.agg #[.int .i64 x.need,.int .i64 x.rate]) (by simp[results,Tryz.results239,go_sem]) rfl ⟨rfl,(((Below.refl _ _).alloc (Nat.le_refl _) _).alloc (by simp) _).alloc (by simp;omega) _⟩
theorem eq_Mode (x:DMode) (w:World) :
  Calls Tryz.prog 241 #[.agg #[.int .i64 x.need,.int .i64 x.rate],.agg #[.int .i64 x.need,.int .i64 x.rate]] w fun e w'=>e=.returned (.bool true)∧Below w.heap.size w w':=by
 go_enter Tryz.func241,Tryz.ntmps241
 go_wp2
 go_ret
 exact⟨rfl,((Below.refl _ _).alloc (Nat.le_refl _) _).alloc (by simp) _⟩
theorem DMode.sT_eq (l:List DMode):DMode.sT l=.sl 2 (l.flatMap DMode.tr):=rfl
theorem DMode.siz_s (l:List DMode):siz (DMode.sT l)=l.length+sizL (l.flatMap DMode.tr):=siz_flat DMode.tr 2 (by decide) DMode.tr_len l
theorem DMode.cnt_tr (x:DMode):cntL x.tr=2:=by simp only[DMode.tr,cntL,cnt,intT]
theorem DMode.siz_tr (x:DMode):sizL x.tr=0:=by simp[DMode.tr,sizL,siz,intT]
theorem DMode.sizL_s (l:List DMode):sizL (l.flatMap DMode.tr)=0:=by
 induction l with
 | nil=>rfl
 | cons x l ih=>rw[List.flatMap_cons,sizL_append,ih,DMode.siz_tr]
theorem sz_ModeS (l:List DMode) (v:Value) (B:Nat) (left:Int) (w:World) (h:Rd B w (DMode.sT l) v) (hB:B≤w.heap.size) (hl:0≤left) (hl2:left≤1048576) :
  Calls Tryz.prog 198 #[v,.int .i64 left] w (SzPost (siz (DMode.sT l)) left w):=by
 rw[DMode.siz_s,DMode.sizL_s]
 obtain⟨a,c,rfl,hnc,hcm,_⟩:=DMode.rd h
 clear h
 unfold maxLen at hcm
 go_enter Tryz.func198,Tryz.ntmps198
 go_wp2
 all_goals go_ret
 all_goals first|exact⟨Or.inl ⟨by omega,ret_int (by omega)⟩,Below.refl _ _⟩|exact⟨Or.inr ⟨by omega,rfl⟩,Below.refl _ _⟩
theorem infoMode:(Tryz.prog.info? 213).map (fun i=>(i.zero,i.size,i.bytes))=some (some (.agg #[.int .i64 0,.int .i64 0]),2,16):=by kernel_rfl
theorem to_ModeS (l:List DMode) (v:Value) (w:World) (h:Rd w.heap.size w (DMode.sT l) v) (hn:siz (DMode.sT l)≤1048576) :
  Calls Tryz.prog 211 #[v] w fun e w'=>∃ a' c' fp,e=.returned (.slice a' l.length c')∧Below w.heap.size w w'∧Own w' (DMode.sT l) (.slice a' l.length c') fp∧In w.heap.size w'.heap.size fp:=by
 rw[DMode.siz_s] at hn
 obtain⟨i0,hi0,hz0,hz1,hz2⟩:=info_parts infoMode
 have hmk:=fun W=>run_make_rowN (P:=Tryz.prog) 137 213 i0 _ Tryz.underlying137 hi0 hz0 .i64 .i64 l.length l.length (Nat.le_refl _) (by rw[hz2];omega) (by omega) W
 rw[hz1] at hmk
 have hnb:(l.length:Int)≤1048576:=by omega
 obtain⟨a,c,rfl,hnc,hcm,hcells⟩:=DMode.rd h
 clear h
 go_enter Tryz.func211,Tryz.ntmps211
 go_wp2
 clear hmk hi0 hz0 hz1 hz2
 go_loopw [4] (fun i wr=>∃ (k:Nat) (f:List Nat),k≤l.length∧i=.int .i64 k∧Below w.heap.size w wr∧Fill wr w.heap.size 213 (l.length*2) ((l.take k).flatMap DMode.tr) f∧In w.heap.size wr.heap.size f) (fun i wr=>l.length-(intOf i).toNat)
 case atStart =>
  have hst:=Fill.start w (madeCells #[.int .i64 0,.int .i64 0] (l.length*2)) 213
  rw[size_madeCells] at hst
  exact⟨0,[],Nat.zero_le _,rfl,(Below.refl _ _).alloc (Nat.le_refl _) _,by simpa using hst,In.nil⟩
 case round =>
  obtain⟨k,f,hk,rfl,hb,hfill,hin⟩:=hrel
  by_cases hlt:k<l.length
  ·obtain⟨b,off,rfl,hbl,hat⟩:=hcells (by omega)
   obtain⟨s0,s1⟩:=hat k hlt
   rw[← hb.cell (p:=⟨b,_,none⟩) hbl] at s0 s1
   have hz:=hfill.lt
   have hz2:b<wr.heap.size:=by omega
   obtain⟨o0,p0⟩:=hfill.room (k*2) (by omega)
   obtain⟨o1,p1⟩:=hfill.room (k*2+1) (by omega)
   have hfz:=hfill.open_
   have hsl:=sizL_get_le DMode.tr l k hlt
   have HB:=Lib.hid hb
   clear hcells hat hb
   go_wp2_with (go_at_call 239;refine (to_Mode l[k] _).mono ?_;rintro e w1 ⟨rfl,hb1⟩;obtain⟨q1,q2⟩:=bcell hb1)
   go_roundw
   case rel =>
    have hw1:=hfill.below hin hb1
    have hst:=hw1.step (us:=l[k].tr) (vs:=[.int .i64 l[k].need,.int .i64 l[k].rate]) (g:=[]) (RepV.lits [.int .i64 l[k].need,.int .i64 l[k].rate]) (by rw[flat_length _ 2 DMode.tr_len];simp;omega) List.nodup_nil (by simp) (by simp) (fun b h=>by simp at h)
    rw[flat_length _ 2 DMode.tr_len,List.length_take,Nat.min_eq_left hk,List.append_nil,← flat_take_succ DMode.tr l k hlt] at hst
    exact⟨k+1,f,by omega,by go_num,below_setRow (HB.out.trans (hb1.mono (by omega))) (Nat.le_refl _) [.int .i64 l[k].need,.int .i64 l[k].rate] (k*2),hst,fun x hx=>⟨(hin x hx).1,by have:=(hin x hx).2;have:=hb1.size;simp only[size_setCell];omega⟩⟩
   case measure=>simp[intOf];omega
  ·obtain rfl:k=l.length:=by omega
   clear hcells
   go_wp2
   go_ret
   rw[List.take_length] at hfill
   obtain⟨fp,h1,h2⟩:=hfill.own (flat_length _ 2 DMode.tr_len l) (by unfold maxLen;omega)
   exact⟨_,_,fp,rfl,hb,h1,fun x hx=>by rcases h2 x hx with rfl|h;exact⟨Nat.le_refl _,hfill.lt⟩;exact hin x h⟩
theorem eq_ModeS (l:List DMode) (v v':Value) (B:Nat) (w:World) (h:Rd B w (DMode.sT l) v) (h':Rd B w (DMode.sT l) v') (hB:B≤w.heap.size) (hn:siz (DMode.sT l)≤1099511627776) :
  Calls Tryz.prog 224 #[v,v'] w fun e w'=>e=.returned (.bool true)∧Below w.heap.size w w':=by
 rw[DMode.siz_s] at hn
 have hnb:(l.length:Int)≤1099511627776:=by omega
 obtain⟨a,c,rfl,hnc,hcm,hcells⟩:=DMode.rd h
 obtain⟨a',c',rfl,hnc',hcm',hcells'⟩:=DMode.rd h'
 clear h h'
 have hne:((l.length:Int) != l.length)=false:=by simp
 go_enter Tryz.func224,Tryz.ntmps224
 go_wp2
 clear hne
 go_loopw [5] (fun i wr=>∃ (k:Nat),k≤l.length∧i=.int .i64 k∧Below w.heap.size w wr) (fun i wr=>l.length-(intOf i).toNat)
 case atStart=>exact⟨0,Nat.zero_le _,rfl,Below.refl _ _⟩
 case round =>
  obtain⟨k,hk,rfl,hb⟩:=hrel
  by_cases hlt:k<l.length
  ·obtain⟨b,off,rfl,hbl,hat⟩:=hcells (by omega)
   obtain⟨b',off',rfl,hbl',hat'⟩:=hcells' (by omega)
   obtain⟨s0,s1⟩:=hat k hlt
   obtain⟨sb0,sb1⟩:=hat' k hlt
   rw[← hb.cell (p:=⟨b,_,none⟩) (show b<w.heap.size by omega)] at s0 s1
   rw[← hb.cell (p:=⟨b',_,none⟩) (show b' < w.heap.size by omega)] at sb0 sb1
   have hB':B≤wr.heap.size:=by have:=hb.size;omega
   have hsl:=sizL_get_le DMode.tr l k hlt
   have i1:(0:Int)≤(k:Int):=by omega
   have i2:(k:Int)<(l.length:Int):=by omega
   have HB:=Lib.hid hb
   clear hcells hat hcells' hat' hb
   go_wp2
   go_still_tail 8,(by kernel_rfl)
   change wpList _ _ _ _ _ wr.drew
   go_wp2_with (go_at_call 241;refine (eq_Mode l[k]   _  ).mono ?_;rintro e w1 ⟨rfl,hb1⟩)
   go_roundw
   case rel=>exact⟨k+1,by omega,by go_num,HB.out.drew.trans (hb1.mono HB.out.size)⟩
   case measure=>simp[intOf];omega
  ·obtain rfl:k=l.length:=by omega
   clear hcells hcells'
   go_wp2
   go_ret
   exact⟨rfl,hb⟩
theorem DMode.mk_tr (x:DMode) (K:Nat):mkL x.tr K = [.lit (.int .i64 ((K:Int))),.lit (.int .i64 ((K:Int)+1))]:=rfl
theorem DMode.cntL_tr (x:DMode):cntL x.tr=1+1:=by rfl
theorem mark_ModeS (l:List DMode) (v:Value) (fp:List Nat) (k0 lo:Nat) (w:World) (h:Own w (DMode.sT l) v fp) (hin:In lo w.heap.size fp) (hs:siz (DMode.sT l)≤1099511627776) (hk0:k0+cnt (DMode.sT l)≤1099511627776) (hk1:0<k0) :
  Calls Tryz.prog 184 #[v,.int .i64 k0] w fun e w'=>e=.returned (.int .i64 ((k0+cnt (DMode.sT l):Nat):Int))∧Own w' (mkT (DMode.sT l) k0) v fp∧Chg fp w w':=by
 rw[DMode.siz_s] at hs
 obtain⟨a,c,hv,hnc,hcm⟩:=h.form (k:=2) (g:=DMode.tr) (by decide) DMode.tr_len
 subst hv
 rw[show cnt (DMode.sT l)=cntL (l.flatMap DMode.tr) from by rw[DMode.sT,cnt]] at hk0 ⊢
 have hnb:(l.length:Int)≤1099511627776:=by omega
 go_enter Tryz.func184,Tryz.ntmps184
 go_wp2
 go_loopw [1,5] (fun kk i wr=>∃ (j K:Nat),j≤l.length∧i=.int .i64 j∧K=k0+cntL ((l.take j).flatMap DMode.tr)∧kk=.int .i64 (K:Int)∧Own wr (mid DMode.tr 2 l k0 j) (.slice a l.length c) fp∧Chg fp w wr) (fun _ i wr=>l.length-(intOf i).toNat)
 case atStart=>exact⟨0,k0,Nat.zero_le _,rfl,by simp[cntL],rfl,by rw[mid_zero];exact h,Chg.refl _ _⟩
 case round =>
  obtain⟨j,K,hj,rfl,hK,rfl,hown,hchg⟩:=hrel
  by_cases hlt:j<l.length
  ·rw[mid_at _ _ _ _ _ hlt] at hown
   have hts:(mkL ((l.take j).flatMap DMode.tr) k0).length=j*2:=by rw[mkL_length,flat_length _ 2 DMode.tr_len,List.length_take,Nat.min_eq_left hj]
   have hsum:=cntL_take_succ DMode.tr l j hlt
   have hle:=cntL_flat_take_le DMode.tr l (j+1)
   have hcx:=DMode.cntL_tr l[j]
   have hkb:K+(1+1)≤1099511627776:=by omega
   have hkp:0<K:=by omega
   have hszj:=sizL_get_le DMode.tr l j hlt
   have HM:=Lib.hid (mid_succ DMode.tr 2 l k0 j hlt)
   have HS:=Lib.hid hsum
   have HK:=Lib.hid hK
   have HC:=Lib.hid hcx
   have HT:=Lib.hid hts
   clear hsum hcx hle hK hts
   generalize mkL ((l.take j).flatMap DMode.tr) k0=TS at *
   generalize (l.drop (j+1)).flatMap DMode.tr=US at *
   have hin':In lo wr.heap.size fp:=hin.mono (Nat.le_refl _) hchg.size
   have o0:Own wr (.sl 2 (TS++([.lit (.int .i64 l[j].need),.lit (.int .i64 l[j].rate)]++US))) (.slice a l.length c) fp:=hown
   clear hown
   obtain⟨b,off,rfl,hbf⟩:=o0.someAddr
   have hbw:=(hin' b hbf).2
   have hfz:∀ i,wr.frozen? ⟨b,i,none⟩=false:=o0.free b hbf
   have z0:wr.heap.size≤wr.heap.size:=Nat.le_refl _
   obtain⟨s0,_⟩:=o0.cellChunk 0 _ rfl (off+j*2) (by rw[HT.out];omega)
   obtain⟨s1,_⟩:=o0.cellChunk 1 _ rfl (off+j*2+1) (by rw[HT.out];omega)
   have O0:=Lib.hid o0
   have C0:=Lib.hid hchg
   clear o0 hchg
   have O1:=Lib.hid (O0.out.setChunk 0 _ rfl (off+j*2) (by rw[HT.out];omega) (.int .i64 ((K:Int))))
   have C1:=Lib.hid (C0.out.setCell (p:=⟨b,off+j*2,none⟩) hbf (.int .i64 ((K:Int))))
   have O2:=Lib.hid (O1.out.setChunk 1 _ rfl (off+j*2+1) (by rw[HT.out];omega) (.int .i64 ((K:Int)+1)))
   have C2:=Lib.hid (C1.out.setCell (p:=⟨b,off+j*2+1,none⟩) hbf (.int .i64 ((K:Int)+1)))
   go_wp2
   go_roundw
   case rel =>
    refine⟨j+1,K+(1+1),by omega,by go_num,by have:=HK.out;have:=HS.out;have:=HC.out;omega,by go_num,?_,C2.out⟩
    rw[HM.out,← HK.out,DMode.mk_tr]
    exact O2.out
   case measure=>simp[intOf];omega
  ·obtain rfl:j=l.length:=by omega
   have HK:=Lib.hid hK
   clear hK
   go_wp2
   go_ret
   rw[mid_end] at hown
   have e:=HK.out
   rw[List.take_length] at e
   exact⟨ret_int (by omega),hown,hchg⟩
theorem markI_ModeS (l:List DMode) (v:Value) (fp:List Nat) (k lo:Nat) (K:Int) (w:World) (h:Own w (DMode.sT l) v fp) (hin:In lo w.heap.size fp) (hs:siz (DMode.sT l)≤1099511627776) (hK:K=(k:Int)) (hk0:k+cnt (DMode.sT l)≤1099511627776) (hk1:0<k) :
  Calls Tryz.prog 184 #[v,.int .i64 K] w fun e w'=>e=.returned (.int .i64 (K+(cnt (DMode.sT l):Int)))∧Own w' (mkT (DMode.sT l) k) v fp∧Chg fp w w':=by
 subst hK
 refine (mark_ModeS l v fp k lo w h hin hs hk0 hk1).mono fun e w' ⟨he,h1,h2⟩=>⟨?_,h1,h2⟩
 rw[he,Int.natCast_add]
end Go.Proofs.YtjfmkmcefnidcaaGreat
