/- Rows of faults, sizes and counts of plans. Plain lemmas but for one fact of the program. -/
import Derived.Test.YtjfmkmcefnidcaaGreatSl
import Derived.Test.YtjfmkmcefnidcaaGreatTypes
import Derived.Test.YtjfmkmcefnidcaaGreatOver
import Derived.Test.YtjfmkmcefnidcaaGreatHArea
import Derived.Test.YtjfmkmcefnidcaaGreatPl10
import Derived.Test.YtjfmkmcefnidcaaGreatBox
import Derived.Test.YtjfmkmcefnidcaaGreatHFault
namespace Go.Proofs.YtjfmkmcefnidcaaGreat
open Go.RowKit
set_option linter.unusedVariables false
theorem strsT_flat (l:List ByteArray):strsT l=.sl 1 (l.flatMap fun x=>[strT x]):=by rw[strsT,map_flat]
theorem cntL_strs (l:List ByteArray):cntL (l.map strT)=l.length:=by
 induction l with
 | nil=>rfl
 | cons x l ih=>simp only[List.map_cons,cntL,ih,strT,cnt,List.length_cons];omega
theorem cnt_strs (l:List ByteArray):cnt (strsT l)=l.length:=by rw[strsT,cnt,cntL_strs]
theorem siz_strs (l:List ByteArray):siz (strsT l)=l.length+(l.map ByteArray.size).sum:=by
 rw[strsT,siz,List.length_map,Nat.div_one]
 congr 1
 induction l with
 | nil=>rfl
 | cons x l ih=>simp only[List.map_cons,sizL,strT,siz,List.sum_cons,ih]
theorem cnt_flat_le {α:Type} (g:α→List Tr) (k K:Nat) (hk:0<k) (hg:∀ x,(g x).length=k) (hc:∀ x,cntL (g x)≤K+K*sizL (g x)) (l:List α):cnt (.sl k (l.flatMap g))≤K*siz (.sl k (l.flatMap g)):=by
 rw[siz_flat g k hk hg,cnt]
 induction l with
 | nil=>simp[cntL]
 | cons x l ih =>
  rw[List.flatMap_cons,cntL_append,sizL_append,List.length_cons]
  have h1:=hc x
  rw[Nat.mul_add] at ih ⊢
  rw[Nat.mul_add,Nat.mul_add]
  omega
theorem DSite.cnt_le (l:List DSite):cnt (DSite.sT l)≤16*siz (DSite.sT l):=cnt_flat_le DSite.tr 4 16 (by decide) DSite.tr_len (fun x=>by simp only[DSite.tr,cntL,cnt,strT,intT];omega) l
theorem DSector.cnt_le (l:List DSector):cnt (DSector.sT l)≤16*siz (DSector.sT l):=cnt_flat_le DSector.tr 9 16 (by decide) DSector.tr_len (fun x=>by simp only[DSector.tr,cntL,cnt,strT,intT];omega) l
theorem DMode.cnt_le (l:List DMode):cnt (DMode.sT l)≤16*siz (DMode.sT l):=cnt_flat_le DMode.tr 2 16 (by decide) DMode.tr_len (fun x=>by simp only[DMode.tr,cntL,cnt,intT];omega) l
theorem DAntenna.cnt_le (l:List DAntenna):cnt (DAntenna.sT l)≤16*siz (DAntenna.sT l):=cnt_flat_le DAntenna.tr 4 16 (by decide) DAntenna.tr_len (fun x=>by
 have h1:=cnt_ints x.horizontal
 have h2:=siz_ints x.horizontal
 have h3:=cnt_ints x.vertical
 have h4:=siz_ints x.vertical
 simp only[DAntenna.tr,cntL,sizL]
 have h5:cnt (strT x.name)=1:=rfl
 have h6:cnt (intT x.gain)=1:=rfl
 omega) l
theorem DRadio.cnt_le (l:List DRadio):cnt (DRadio.sT l)≤16*siz (DRadio.sT l):=cnt_flat_le DRadio.tr 6 16 (by decide) DRadio.tr_len (fun x=>by
 have h1:=DMode.cnt_le x.modes
 simp only[DRadio.tr,cntL,sizL]
 have h5:cnt (strT x.name)=1:=rfl
 have h6:cnt (intT x.power)=1:=rfl
 have h7:cnt (intT x.feeder)=1:=rfl
 have h8:cnt (intT x.noise)=1:=rfl
 have h9:cnt (intT x.width)=1:=rfl
 omega) l
end Go.Proofs.YtjfmkmcefnidcaaGreat
namespace Go.Proofs.YtjfmkmcefnidcaaGreat
open Go.RowKit
set_option linter.unusedVariables false
set_option linter.unusedSimpArgs false
theorem infoF:(Tryz.prog.info? 114).map (fun i=>(i.zero,i.size,i.bytes))=some (some (.agg #[.int .i64 0,.string ⟨#[]⟩,.string ⟨#[]⟩]),3,40):=by kernel_rfl
theorem grow_empty3 (w:World) (E:Nat):Grow (w.alloc (.cells #[] E)) w.heap.size E 3 (.slice (some ⟨w.heap.size,0,none⟩) 0 0) 0 [] []:=⟨⟨[],own_emptyK w E 3,rfl⟩,List.nodup_nil,fun b h=>by simp at h,fun g _=>by simp⟩
theorem DFault.len_tr (l:List DFault):(l.flatMap DFault.tr).length=l.length*3:=by
 induction l with
 | nil=>rfl
 | cons x l ih=>rw[List.flatMap_cons,List.length_append,ih,DFault.tr_len,List.length_cons,Nat.succ_mul];omega
theorem own_nilF (w:World):Own w (DFault.sT []) (.slice none 0 0) []:=⟨Rep_sl.2 ⟨none,0,0,rfl,rfl,Nat.le_refl _,by unfold maxLen;omega,Or.inl ⟨rfl,rfl⟩⟩,List.nodup_nil,fun b h=>by simp at h⟩
theorem secs_le {p:DPlan} (h:sizL p.tr≤1048576):p.network.sectors.length≤1048576:=by
 have h1:=DPlan.siz_tr p
 have h3:=DNetwork.siz_tr p.network
 rw[DSite.siz_s,DSector.siz_s,DAntenna.siz_s,DRadio.siz_s] at h3
 omega
theorem DBand.cnt_le (l:List DBand):cnt (DBand.sT l)≤16*siz (DBand.sT l):=cnt_flat_le DBand.tr 5 16 (by decide) DBand.tr_len (fun x=>by simp only[DBand.tr,cntL,cnt,strT,intT];omega) l
theorem DLicence.cnt_le (l:List DLicence):cnt (DLicence.sT l)≤16*siz (DLicence.sT l):=cnt_flat_le DLicence.tr 11 16 (by decide) DLicence.tr_len (fun x=>by simp only[DLicence.tr,cntL,cnt,strT,intT];omega) l
theorem DProtected.cnt_le (l:List DProtected):cnt (DProtected.sT l)≤16*siz (DProtected.sT l):=cnt_flat_le DProtected.tr 7 16 (by decide) DProtected.tr_len (fun x=>by simp only[DProtected.tr,cntL,cnt,strT,intT];omega) l
theorem DFault.cnt_le (l:List DFault):cnt (DFault.sT l)≤16*siz (DFault.sT l):=cnt_flat_le DFault.tr 3 16 (by decide) DFault.tr_len (fun x=>by simp only[DFault.tr,cntL,cnt,strT,intT];omega) l
theorem cntL_plan (p:DPlan):cnt (intsT p.terrain.heights)+cnt (intsT p.terrain.clutter)+cnt (DSite.sT p.network.sites)+cnt (DSector.sT p.network.sectors)+cnt (DAntenna.sT p.network.antennas)+cnt (DRadio.sT p.network.radios)+cnt (DBand.sT p.bands)+cnt (DLicence.sT p.licences)+cnt (DProtected.sT p.protected_)+cnt (intssT p.apart)≤16*sizL p.tr:=by
 have h1:=DPlan.siz_tr p
 have h2:=DTerrain.siz_tr p.terrain
 have h3:=DNetwork.siz_tr p.network
 rw[siz_ints,siz_ints] at h2
 rw[siz_intss] at h1
 have a0:=DSite.cnt_le p.network.sites
 have a1:=DSector.cnt_le p.network.sectors
 have a2:=DAntenna.cnt_le p.network.antennas
 have a3:=DRadio.cnt_le p.network.radios
 have a4:=DBand.cnt_le p.bands
 have a5:=DLicence.cnt_le p.licences
 have a6:=DProtected.cnt_le p.protected_
 rw[cnt_ints,cnt_ints,cnt_intss]
 omega
theorem planB_names {p:DPlan} (h:planB p=true) {k:Nat} (hk:k<p.network.sectors.length):(gSector p.network.sectors k).name.size≤10∧(gSector p.network.sectors k).site.size≤10∧(gSector p.network.sectors k).band.size≤10:=by
 unfold planB netB at h
 simp only[Bool.and_eq_true] at h
 rw[← gSector_eq hk]
 have:=rowOk_ok h.2.1.2.2.2.2.2.2.2 hk
 rw[Bool.and_eq_true] at this
 have:=this.1
 unfold sectorB nameB at this
 simp only[Bool.and_eq_true,decide_eq_true_eq] at this
 exact⟨this.1.2.1,this.2.1.2.1,this.2.2.2.2.1.2.1⟩
end Go.Proofs.YtjfmkmcefnidcaaGreat
