/- Contracts: decimal numerals read and written, texts divided at a byte, for the program and for the reference. Conditions: bounded sizes; the library's own variables hold what they hold at the start. -/
import Derived.Test.YtdgmgchdjlfchaaGreatDoorTx2
import Derived.Test.YtdgmgchdjlfchaaGreatDoorShelf
import Derived.Test.YtdgmgchdjlfchaaGreatDoorRaw
import Derived.Lib.SmallJoins
set_option linter.unusedVariables false
set_option linter.unusedSimpArgs false
namespace Go.Proofs.YtdgmgchdjlfchaaGreatDoor
open Go.RowKit
structure LibW (w:World):Prop where
 sz:2<w.heap.size
 tab:Go.Lib.TabIs Tryz.prog w "internal/strconv.uint64pow10" .u64 Go.Lib.pow10Tab
theorem gPow10:Tryz.prog.globalNamed "internal/strconv.uint64pow10" = some 2:=by kernel_rfl
theorem LibW.mono {w w':World} (h:LibW w) (hb:Below w.heap.size w w'):LibW w':=by
 obtain⟨hs,ht⟩:=h;have hz:=hb.size;exact⟨by omega,var?_below hb gPow10 (by omega) ht⟩
theorem below_grow (w:World) (k:Nat) (os:Array Obj):Below w.heap.size w (Go.Sort.grow (w.drewN k) os):=⟨rfl,rfl,rfl,by simp[Go.Sort.grow],fun j hj=>by
 rw[Go.Sort.heap_grow_old _ _ (by simpa using hj)];rfl⟩
theorem decimal_any (n:Int) (hn:I64 n) (w:World) (L:LibW w):Calls Tryz.prog 228 #[.int .i64 n] w fun e w'=>e=.returned (.string (ofL (Go.Lib.itoa n)))∧Below w.heap.size w w':=by
 have ht:=Lib.hid L.tab;have hn1:=hn.1;have hn2:=hn.2;clear L hn;go_enter Tryz.func228,Tryz.ntmps228;go_wp2_with (go_at_call 247;refine (Tryz.strconv_FormatInt_10 n hn1 hn2 _ ht.out).mono ?_;rintro e w1 ⟨rfl,k,os,rfl⟩);go_ret;exact⟨rfl,below_grow _ _ _⟩
end Go.Proofs.YtdgmgchdjlfchaaGreatDoor
