/- Points, sites, sectors that texts spell. Plain lemmas; no program. -/
import Derived.Test.YtpodllefipleiaaGreatDoorTx1
import Derived.Test.YtpodllefipleiaaGreatDoorOrdS
set_option linter.unusedVariables false
set_option linter.unusedSimpArgs false
namespace Go.Proofs.YtpodllefipleiaaGreatDoor
def bl (s:ByteArray):List UInt8:=s.data.toList
def ofL (l:List UInt8):ByteArray:=⟨l.toArray⟩
theorem bl_ofL (l:List UInt8):bl (ofL l)=l:=by simp[bl,ofL]
theorem ofL_bl (s:ByteArray):ofL (bl s)=s:=by simp[bl,ofL]
theorem ofL_inj {a b:List UInt8} (h:ofL a=ofL b):a=b:=by rw[← bl_ofL a,h,bl_ofL]
theorem ofL_size (l:List UInt8):(ofL l).size=l.length:=rfl
theorem bl_len (s:ByteArray):(bl s).length=s.size:=rfl
theorem ofL_eq {l:List UInt8} {s:ByteArray} : ofL l=s↔l=bl s:=by
 constructor
 ·rintro rfl;rw[bl_ofL]
 ·rintro rfl;rw[ofL_bl]
def zbf (c:UInt8) (s:ByteArray):List ByteArray:=(zar c (bl s)).map ofL
theorem wordsB_len (c:UInt8) (s:ByteArray):(zbf c s).length=(bl s).count c+1:=by rw[zbf,List.length_map,splitC_len]
theorem map_ofL_bl (l:List ByteArray):(l.map bl).map ofL=l:=by
 rw[List.map_map]
 conv=>rhs;rw[← List.map_id l]
 exact List.map_congr_left fun x _=>ofL_bl x
theorem splitB_words (c:UInt8) (k:Nat) (s:ByteArray):Go.Lib.splitB ⟨#[c]⟩ 0 k s=(zau c k (bl s)).map ofL:=by
 rw[← splitK_eq,← map_ofL_bl (Go.Lib.splitB ⟨#[c]⟩ 0 k s)]
 congr 1
 exact Go.Lib.splitB_data ⟨#[c]⟩ 0 k s
theorem countB_one (c:UInt8) (s:ByteArray):Go.Lib.countB s ⟨#[c]⟩=(bl s).count c:=Go.Lib.count_one c (bl s)
theorem splitB_all_words (c:UInt8) (s:ByteArray):Go.Lib.splitB ⟨#[c]⟩ 0 (Go.Lib.countB s ⟨#[c]⟩) s=zbf c s:=by
 rw[splitB_words,countB_one,zbr c _ _ (Nat.le_refl _)];rfl
theorem splitN_min (c:UInt8) (k:Nat) (l:List UInt8):zau c (min (k+1) (l.length+1)-1) l=zau c k l:=by
 by_cases h:k≤l.length
 ·rw[show min (k+1) (l.length+1)-1=k by omega]
 ·have:=List.count_le_length (a:=c) (l:=l)
  rw[zbr c l _ (by omega),zbr c l k (by omega)]
theorem words_of (c:UInt8) (s:ByteArray) (ws:List (List UInt8)) (h:zar c (bl s)=ws):zbf c s=ws.map ofL:=by rw[zbf,h]
theorem join_words {c:UInt8} {s:ByteArray} {ws:List (List UInt8)} (h:zar c (bl s)=ws):Go.Lib.join ws [c]=bl s:=by rw[← h,join_splitC]
theorem readM_some {l:List UInt8} {k:Nat} {vs:List Int} (h:zcu l k=some vs):readL l=some vs∧vs.length=k:=by
 unfold zcu at h
 cases hr:readL l with
 | none=>rw[hr] at h;cases h
 | some us =>
  rw[hr] at h;have h':(if us.length=k then some us else none)=some vs:=h
  by_cases e:us.length=k
  ·rw[if_pos e] at h'
   obtain rfl:=Option.some.inj h';exact⟨rfl,e⟩
  ·rw[if_neg e] at h';cases h'
theorem readM_text {l:List UInt8} {k:Nat} {vs:List Int} (h:zcu l (k+1)=some vs):zag vs=l:=by
 obtain⟨h1,h2⟩:=readM_some h;exact readL_text h1 (by rintro rfl;simp at h2)
end Go.Proofs.YtpodllefipleiaaGreatDoor
