/- Contracts: what the register's draw calls: some key, some value. Condition: a place in the source that is not too great. -/
import Derived.Test.YtmkkiglcpedkiaaGreatDoorFp6
import Derived.Test.YtmkkiglcpedkiaaGreatDoorMk
import Derived.Test.YtmkkiglcpedkiaaGreatDoorSr2
set_option linter.unusedVariables false
set_option linter.unusedSimpArgs false
namespace Go.Proofs.YtmkkiglcpedkiaaGreatDoor
open Go.RowKit
set_option maxHeartbeats 4000000
structure LayD (w:World) (q:Nat) (l:List ByteArray):Prop where
 lt:q<w.heap.size
 at_:∀ i (hi:i<l.length),w.cell? ⟨q,i,none⟩=some (.string l[i])
theorem LayD.new (w:World) (cs:Array Value) (l:List ByteArray) (E:Nat) (h:cs.toList=l.map fun n=>.string n):LayD (w.alloc (.cells cs E)) w.heap.size l:=by
 refine⟨by simp,fun i hi=>?_⟩;have hk:=bkN w cs E;exact cell_of_row' hk i ▸ (by rw[← Array.getElem?_toList,h,List.getElem?_map,List.getElem?_eq_getElem hi];rfl)
theorem textD_any (b k:Nat) (l:List ByteArray) (q c:Nat) (w:World) (h:Src w b k) (hk:k≤1099511627000) (hq:b≠q) (h1:1≤l.length) (h2:l.length≤1000) (L:LayD w q l) :
  Calls Tryz.prog 56 #[.pointer (some ⟨b,0,none⟩),.slice (some ⟨q,0,none⟩) l.length c] w fun e w'=>(∃ x ∈ l,e=.returned (.string x))∧SrcQ b k 2 w w':=by
 have HP:=Lib.hid (pick_pos b k (l.length:Int) w h hk (by omega) (by omega));have HL:=Lib.hid L;clear h L;have hl:(l.length:Int)≤1000:=by omega
 go_enter Tryz.func56,Tryz.ntmps56;go_wp2_with (fail)
 go_at_call 26
 refine HP.out.mono ?_;rintro e w1 ⟨⟨x,hx0,hx1,rfl⟩,k1,g1,g2,S1,C1⟩;obtain⟨n,rfl⟩:=Int.eq_ofNat_of_zero_le hx0;have hn:n<l.length:=by omega
 have s0:=(show w1.cell? ⟨q,n,none⟩=w.cell? ⟨q,n,none⟩ from World.cell?_of_block (C1.block q HL.out.lt (by simp<;>omega))).trans (HL.out.at_ n hn);have HM:=Lib.hid (List.getElem_mem hn);generalize l[n]=y at *;have HS:=Lib.hid (show SrcQ b k 2 w w1 from ⟨k1,g1,g2,S1,C1⟩);clear HP HL S1 C1;go_wp2;go_ret;exact⟨⟨y,HM.out,rfl⟩,HS.out⟩
def DrawStr (b k m:Nat) (w:World) (e:Ending) (w':World):Prop:=∃ s:ByteArray,s.size≤300∧e=.returned (.string s)∧SrcQ b k m w w'
theorem l28DrawKey_any (b k:Nat) (w:World) (h:Src w b k) (hk:k≤1099511620000):Calls Tryz.prog 27 #[.pointer (some ⟨b,0,none⟩)] w (DrawStr b k 2 w):=by
 have HS:=Lib.hid h;clear h;go_enter Tryz.func27,Tryz.ntmps27;go_wp2_with (fail)
 go_at_call 56
 have BA:Below w.heap.size w (w.alloc (.cells #[.string ⟨#[97]⟩,.string ⟨#[98]⟩,.string ⟨#[99]⟩,.string ⟨#[115,105,116,101,49]⟩,.string ⟨#[115,105,116,101,50]⟩,.string ⟨#[120,57]⟩,.string ⟨#[97]⟩,.string ⟨#[98]⟩,.string ⟨#[81]⟩,.string ⟨#[97,98,99,100,101,102,103,104,105,106,107]⟩] 9)):=below_alloc _ _;refine (textD_any b k [⟨#[97]⟩,⟨#[98]⟩,⟨#[99]⟩,⟨#[115,105,116,101,49]⟩,⟨#[115,105,116,101,50]⟩,⟨#[120,57]⟩,⟨#[97]⟩,⟨#[98]⟩,⟨#[81]⟩,⟨#[97,98,99,100,101,102,103,104,105,106,107]⟩] w.heap.size 10 _ (HS.out.below (HS.out).lt BA) (by omega) (by have:=(HS.out).lt;omega) (by simp) (by simp) (LayD.new w _ [⟨#[97]⟩,⟨#[98]⟩,⟨#[99]⟩,⟨#[115,105,116,101,49]⟩,⟨#[115,105,116,101,50]⟩,⟨#[120,57]⟩,⟨#[97]⟩,⟨#[98]⟩,⟨#[81]⟩,⟨#[97,98,99,100,101,102,103,104,105,106,107]⟩] 9 rfl)).mono ?_;rintro e w2 ⟨⟨v,hv,rfl⟩,k2,ka2,kb2,S2,C2⟩;have hs:v.size≤300:=by
  simp only[List.mem_cons,List.not_mem_nil,or_false] at hv
  rcases hv with rfl|rfl|rfl|rfl|rfl|rfl|rfl|rfl|rfl|rfl<;>decide
 have HQ:Hid (SrcQ b k 2 w w2):=⟨k2,ka2,kb2,S2,(Chg.of_below BA).trans C2⟩
 clear BA S2 C2 HS hv;go_wp2;go_ret;exact⟨v,hs,rfl,HQ.out⟩
theorem l28Long_any (N:Nat) (hN:N≤300) (w:World):Calls Tryz.prog 57 #[.int .i64 (N:Int)] w fun e w'=>∃ (l:List UInt8) (v:Value),l.length=N∧e=.returned v∧Rd w'.heap.size w' (bytesT l) v∧Below w.heap.size w w':=by
 obtain⟨i0,hi0,hz0,hz1,hz2⟩:=info_parts infoB;have HB0:=Lib.hid (below_alloc w (.cells #[] 5));have HG0:=Lib.hid (grow_none1 w 5 0 (Nat.zero_le _));go_enter Tryz.func57,Tryz.ntmps57;go_wp2;go_loopw [0,3] (fun i v wr=>∃ (m:Nat) (ds:List UInt8),m≤N∧i=.int .i64 ((N:Int)-m)∧ds.length=m∧Below w.heap.size w wr∧Grow wr w.heap.size 5 1 v ds.length (ds.map byteT) []) (fun i _ wr=>(intOf i).toNat)
 case atStart=>exact⟨0,[],Nat.zero_le _,by simp,rfl,HB0.out,by simpa using HG0.out⟩
 case round =>
  obtain⟨m,ds,hm,rfl,hdl,hb,hgr⟩:=hrel;have HB:=Lib.hid hb;have HG:=Lib.hid hgr;have HDL:=Lib.hid hdl;have zr:=hb.size;have hd3:ds.length≤300:=by omega
  clear hb hgr hdl HB0 HG0
  by_cases hlt:m<N
  ·have hmi:(N:Int)-m > 0:=by omega
   go_wp2_with (at_builtin;refine wpList_append1 rfl (.tmp 9) (.tmp 10) _ rfl (w.heap.size) 5 i0 _ 1 1 Tryz.underlying22 hi0 hz0 hz1 hz2 rfl (by omega) _ _ _ [] rfl HG.out [_] [.lit _] [] rfl 1 rfl (fun u hu=>by simp at hu;subst hu;rfl) (RepV.lits [_]) List.nodup_nil (fun b h=>by simp at h) 0 In.nil In.nil (by simp) (by simp) (by unfold maxLen;omega) (by omega) (by omega) ?_;intro v2 w3 hgn);have HGN:=Lib.hid hgn;clear hgn;go_wp2;go_roundw
   case rel =>
    refine⟨m+1,ds++[118],by omega,by go_num,by rw[List.length_append,HDL.out];rfl,HB.out.trans HGN.out.below,?_⟩;rw[List.length_append,List.map_append];exact HGN.out.grow
   case measure=>simp only[intOf];omega
  ·obtain rfl:m=N:=by omega
   have hmi:¬ ((m:Int)-m > 0):=by omega
   obtain⟨aw,cw,fw,ew,ow,iw⟩:=HG.out.toOwn (lo:=w.heap.size) (by omega) In.nil (by omega);have HR:=Lib.hid (ow.rd iw);subst ew;clear HG ow iw;go_wp2;go_ret;exact⟨ds,HDL.out,_,rfl,HR.out,HB.out⟩
theorem l28DrawValue_any (b k:Nat) (w:World) (h:Src w b k) (hk:k≤1099511620000):Calls Tryz.prog 28 #[.pointer (some ⟨b,0,none⟩)] w (DrawStr b k 4 w):=by
 have CP:=Lib.hid (pick_pos b k 12 w h (by omega) (by omega) (by omega));clear h;go_enter Tryz.func28,Tryz.ntmps28;go_wp2_with (fail)
 go_at_call 26
 refine CP.out.mono ?_;rintro e w1 ⟨⟨x,hx0,hx1,rfl⟩,k1,g1,g2,S1,C1⟩;have HS:=Lib.hid S1;have HC:=Lib.hid C1;clear CP S1 C1
 by_cases hx:x=0
 ·subst hx
  clear hx0 hx1;go_wp2_with (fail)
  go_at_call 56
  have BA:Below w1.heap.size w1 (w1.alloc (.cells #[.string ⟨#[]⟩,.string ⟨#[10]⟩,.string ⟨#[32]⟩,.string ⟨#[126]⟩,.string ⟨#[127]⟩] 9)):=below_alloc _ _;refine (textD_any b k1 [⟨#[]⟩,⟨#[10]⟩,⟨#[32]⟩,⟨#[126]⟩,⟨#[127]⟩] w1.heap.size 5 _ (HS.out.below (HS.out).lt BA) (by omega) (by have:=(HS.out).lt;omega) (by simp) (by simp) (LayD.new w1 _ [⟨#[]⟩,⟨#[10]⟩,⟨#[32]⟩,⟨#[126]⟩,⟨#[127]⟩] 9 rfl)).mono ?_;rintro e w2 ⟨⟨v,hv,rfl⟩,k2,ka2,kb2,S2,C2⟩;have hs:v.size≤300:=by
   simp only[List.mem_cons,List.not_mem_nil,or_false] at hv
   rcases hv with rfl|rfl|rfl|rfl|rfl<;>decide
  have HQ:Hid (SrcQ b k 4 w w2):=⟨k2,by omega,by omega,S2,(HC.out.trans (Chg.of_below BA)).trans C2⟩
  clear BA S2 C2 HS HC hv;go_wp2;go_ret;exact⟨v,hs,rfl,HQ.out⟩
 by_cases hx2:x=1
 ·subst hx2
  clear hx0 hx1 hx;go_wp2_with (fail)
  go_at_call 26
  refine (pick_pos b k1 3 w1 HS.out (by omega) (by omega) (by omega)).mono ?_;rintro e w2 ⟨⟨y,hy0,hy1,rfl⟩,k2,ga,gb,S2,C2⟩;obtain⟨n,rfl⟩:=Int.eq_ofNat_of_zero_le hy0;have HQ:Hid (SrcQ b k 4 w w2):=⟨k2,by omega,by omega,S2,HC.out.trans C2⟩
  clear S2 C2 HS HC;have hn3:199+n≤300:=by omega
  go_wp2_with (fail)
  go_at_call 57
  rw[show (199:Int)+(n:Int)=((199+n:Nat):Int) by omega];refine (l28Long_any (199+n) hn3 w2).mono ?_;rintro e w3 ⟨l,v,hl,rfl,hr,hb⟩;obtain⟨a5,c5,e5,h5,h6,hcl5⟩:=Rd.bytes (l:=l) hr;subst e5;obtain⟨b5,off5,ea5,hb5,hat5⟩:=hcl5 (by omega);subst ea5;have hcv:=run_convert_bytes_back (P:=Tryz.prog) w3 22 9 5 ⟨b5,off5,none⟩ c5 l Tryz.underlying22 Tryz.underlying5 Tryz.underlying9 (fun j hj=>by rw[addr_add];exact hat5 j hj);have HQ3:Hid (SrcQ b k 4 w w3):=by
   obtain⟨k3,h1,h2,S3,C3⟩:=HQ.out;exact⟨k3,h1,h2,S3.below S3.lt hb,C3.trans (Chg.of_below hb)⟩
  have hsz:(⟨l.toArray⟩:ByteArray).size≤300:=by show l.toArray.size≤300;simp<;>omega
  clear hat5 hcl5 hr h5 h6 hb5 hb HQ hl hn3;go_wp2;go_ret;exact⟨_,hsz,rfl,HQ3.out⟩
 ·clear hx0 hx1
  go_wp2_with (fail)
  go_at_call 56
  have BA:Below w1.heap.size w1 (w1.alloc (.cells #[.string ⟨#[104,105,108,108,32,111,110,101,32,48,44,48]⟩,.string ⟨#[49]⟩,.string ⟨#[50]⟩,.string ⟨#[108,111,119]⟩,.string ⟨#[97,32,98,32,99]⟩,.string ⟨#[57,48,48,48,48,48,44,57,48,53,48,48,48]⟩,.string ⟨#[120]⟩] 9)):=below_alloc _ _;refine (textD_any b k1 [⟨#[104,105,108,108,32,111,110,101,32,48,44,48]⟩,⟨#[49]⟩,⟨#[50]⟩,⟨#[108,111,119]⟩,⟨#[97,32,98,32,99]⟩,⟨#[57,48,48,48,48,48,44,57,48,53,48,48,48]⟩,⟨#[120]⟩] w1.heap.size 7 _ (HS.out.below (HS.out).lt BA) (by omega) (by have:=(HS.out).lt;omega) (by simp) (by simp) (LayD.new w1 _ [⟨#[104,105,108,108,32,111,110,101,32,48,44,48]⟩,⟨#[49]⟩,⟨#[50]⟩,⟨#[108,111,119]⟩,⟨#[97,32,98,32,99]⟩,⟨#[57,48,48,48,48,48,44,57,48,53,48,48,48]⟩,⟨#[120]⟩] 9 rfl)).mono ?_;rintro e w2 ⟨⟨v,hv,rfl⟩,k2,ka2,kb2,S2,C2⟩;have hs:v.size≤300:=by
   simp only[List.mem_cons,List.not_mem_nil,or_false] at hv
   rcases hv with rfl|rfl|rfl|rfl|rfl|rfl|rfl<;>decide
  have HQ:Hid (SrcQ b k 4 w w2):=⟨k2,by omega,by omega,S2,(HC.out.trans (Chg.of_below BA)).trans C2⟩
  clear BA S2 C2 HS HC hv;go_wp2;go_ret;exact⟨v,hs,rfl,HQ.out⟩
end Go.Proofs.YtmkkiglcpedkiaaGreatDoor
