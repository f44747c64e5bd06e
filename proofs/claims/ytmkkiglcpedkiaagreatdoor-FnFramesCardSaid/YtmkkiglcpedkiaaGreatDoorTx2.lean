/- Points, sites, sectors that texts spell. Plain lemmas; no program. -/
import Derived.Test.YtmkkiglcpedkiaaGreatDoorTx1
import Derived.Test.YtmkkiglcpedkiaaGreatDoorOrdS
set_option linter.unusedVariables false
set_option linter.unusedSimpArgs false
namespace Go.Proofs.YtmkkiglcpedkiaaGreatDoor
def bl (s:ByteArray):List UInt8:=s.data.toList
def ofL (l:List UInt8):ByteArray:=⟨l.toArray⟩
theorem bl_ofL (l:List UInt8):bl (ofL l)=l:=by simp[bl,ofL]
theorem ofL_bl (s:ByteArray):ofL (bl s)=s:=by simp[bl,ofL]
theorem ofL_inj {a b:List UInt8} (h:ofL a=ofL b):a=b:=by rw[← bl_ofL a,h,bl_ofL]
theorem ofL_size (l:List UInt8):(ofL l).size=l.length:=rfl
theorem bl_len (s:ByteArray):(bl s).length=s.size:=rfl
theorem ofL_eq {l:List UInt8} {s:ByteArray} : ofL l=s↔l=bl s:=by
 constructor
 ·rintro rfl;rw[bl_ofL]
 ·rintro rfl;rw[ofL_bl]
def wordsB (c:UInt8) (s:ByteArray):List ByteArray:=(splitC c (bl s)).map ofL
theorem wordsB_len (c:UInt8) (s:ByteArray):(wordsB c s).length=(bl s).count c+1:=by rw[wordsB,List.length_map,splitC_len]
theorem map_ofL_bl (l:List ByteArray):(l.map bl).map ofL=l:=by
 rw[List.map_map]
 conv=>rhs;rw[← List.map_id l]
 exact List.map_congr_left fun x _=>ofL_bl x
theorem splitB_words (c:UInt8) (k:Nat) (s:ByteArray):Go.Lib.splitB ⟨#[c]⟩ 0 k s=(splitN c k (bl s)).map ofL:=by
 rw[← splitK_eq,← map_ofL_bl (Go.Lib.splitB ⟨#[c]⟩ 0 k s)]
 congr 1
 exact Go.Lib.splitB_data ⟨#[c]⟩ 0 k s
theorem countB_one (c:UInt8) (s:ByteArray):Go.Lib.countB s ⟨#[c]⟩=(bl s).count c:=Go.Lib.count_one c (bl s)
theorem splitB_all_words (c:UInt8) (s:ByteArray):Go.Lib.splitB ⟨#[c]⟩ 0 (Go.Lib.countB s ⟨#[c]⟩) s=wordsB c s:=by
 rw[splitB_words,countB_one,splitN_full c _ _ (Nat.le_refl _)];rfl
theorem splitN_min (c:UInt8) (k:Nat) (l:List UInt8):splitN c (min (k+1) (l.length+1)-1) l=splitN c k l:=by
 by_cases h:k≤l.length
 ·rw[show min (k+1) (l.length+1)-1=k by omega]
 ·have:=List.count_le_length (a:=c) (l:=l)
  rw[splitN_full c l _ (by omega),splitN_full c l k (by omega)]
end Go.Proofs.YtmkkiglcpedkiaaGreatDoor
