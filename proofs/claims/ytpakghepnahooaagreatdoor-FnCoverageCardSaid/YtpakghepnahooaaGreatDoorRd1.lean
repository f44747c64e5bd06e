/- Contracts: decimal numerals read and written, texts divided at a byte, for the program and for the reference. Conditions: bounded sizes; the library's own variables hold what they hold at the start. -/
import Derived.Test.YtpakghepnahooaaGreatDoorTx2
import Derived.Test.YtpakghepnahooaaGreatDoorShelf
import Derived.Test.YtpakghepnahooaaGreatDoorSpare
import Derived.Lib.SmallJoins
set_option linter.unusedVariables false
set_option linter.unusedSimpArgs false
namespace Go.Proofs.YtpakghepnahooaaGreatDoor
open Go.RowKit
structure LibW (w:World):Prop where
 sz:2<w.heap.size
 tab:Go.Lib.TabIs Tryz.prog w "internal/strconv.uint64pow10" .u64 Go.Lib.pow10Tab
theorem gPow10:Tryz.prog.globalNamed "internal/strconv.uint64pow10" = some 2:=by kernel_rfl
theorem LibW.mono {w w':World} (h:LibW w) (hb:OI w w w'):LibW w':=by
 obtain⟨hs,ht⟩:=h;have hz:=hb.size;exact⟨II,var?_below hb gPow10 II ht⟩
theorem below_grow (w:World) (k:Nat) (os:Array Obj):OI w w (Go.Sort.grow (w.drewN k) os):=⟨rfl,rfl,rfl,by simp[Go.Sort.grow],fun j hj=>by
 rw[Go.Sort.heap_grow_old _ _ (by simpa using hj)];rfl⟩
theorem decimal_any (n:Int) (hn:I64 n) (w:World) (L:LibW w):Calls Tryz.prog 211 #[J n] w fun e w'=>e=.returned (IQ (ofL (Go.Lib.itoa n)))∧OI w w w':=by
 have ht:=IJ L.tab;have hn1:=hn.1;have hn2:=hn.2;clear L hn;go_enter Tryz.func211,Tryz.ntmps211;go_wp2_with (go_at_call 233;refine (Tryz.strconv_FormatInt_10 n hn1 hn2 _ ht.out).mono ?_;rintro e w1 ⟨rfl,k,os,rfl⟩);go_ret;exact⟨rfl,below_grow _ _ _⟩
end Go.Proofs.YtpakghepnahooaaGreatDoor
