/-
  NARROWER THAN 'FOR EVERY INPUT', by the rows' own cells (each row's printed sentence says how): FnCoverage: laid · FnLimits: laid · FnReceived: laid.
  DERIVED. THE GIVEN ROWS OF THIS SEAT. 3 by the template 'for every input the law returns true; each argument reads behind the call as it read before'; 0 by the template 'total and deterministic' (their statements: YtpakghepnahooaaGreatDoorTotals.lean).
  GIVEN WITH THE SEED: the statements are not yours to turn. If you find one false, say at which input.
  Laid BY PROGRAM, IN A SANDBOX (cutbox-rows.mjs): the forced cells as the released guide's own fill.sh prints them over the translation 0b8e2e24a174d6de… (all of the seat's roots in one cut). By AI agents, Wed Nov 11 2026. No macro, syntax, notation, axiom, sorry.
-/
import Derived.Test.YtpakghepnahooaaGreatDoorChecked
import GoSem.Claim
import GoSem.ClaimJoined
import GoSem.ClaimMapViews
import Derived.JoinedTies
import Derived.KernelRfl
namespace Go.Proofs.YtpakghepnahooaaGreatDoor
/- THE CELL 'sum', in the pinned program and in every row, IS THE sha256 OF THE DUMP (.gsa) THAT YtpakghepnahooaaGreatDoorProg.lean LOADS. Nothing in Lean hashes anything: it is a label: what it is worth is what the hold of that sum in a sandbox is worth. -/
noncomputable def Tryz.pinned : Pinned := { name := "ytpakghepnahooaagreatdoor", sum := "0b8e2e24a174d6de8fcf4fa9b23da6848a276d86326190fba555d901deff52e7", checked := Tryz.checked }
namespace Rows
def none {H : Type} : Left H := { results := [], args := [] }

/- WHAT THE LISTED PACKAGE-LEVEL VARIABLES READ AS WHEN THE CALL BEGINS. Each datum BY PROGRAM (the guide's laid-datum.mjs) off the statement by which the dump's own 'gosem.cut.vars' lays the variable. In a bare row this is a premise. The card (YtpakghepnahooaaGreatDoorCards.lean) ties it to the program's text. -/
def laid_math_bits_deBruijn32tab {H : Type} : DataW H := .agg [.lit (.int .u8 0), .lit (.int .u8 1), .lit (.int .u8 28), .lit (.int .u8 2), .lit (.int .u8 29), .lit (.int .u8 14), .lit (.int .u8 24), .lit (.int .u8 3), .lit (.int .u8 30), .lit (.int .u8 22), .lit (.int .u8 20), .lit (.int .u8 15), .lit (.int .u8 25), .lit (.int .u8 17), .lit (.int .u8 4), .lit (.int .u8 8), .lit (.int .u8 31), .lit (.int .u8 27), .lit (.int .u8 13), .lit (.int .u8 23), .lit (.int .u8 21), .lit (.int .u8 19), .lit (.int .u8 16), .lit (.int .u8 7), .lit (.int .u8 26), .lit (.int .u8 12), .lit (.int .u8 18), .lit (.int .u8 6), .lit (.int .u8 11), .lit (.int .u8 5), .lit (.int .u8 10), .lit (.int .u8 9)]
def laid_math_bits_deBruijn64tab {H : Type} : DataW H := .agg [.lit (.int .u8 0), .lit (.int .u8 1), .lit (.int .u8 56), .lit (.int .u8 2), .lit (.int .u8 57), .lit (.int .u8 49), .lit (.int .u8 28), .lit (.int .u8 3), .lit (.int .u8 61), .lit (.int .u8 58), .lit (.int .u8 42), .lit (.int .u8 50), .lit (.int .u8 38), .lit (.int .u8 29), .lit (.int .u8 17), .lit (.int .u8 4), .lit (.int .u8 62), .lit (.int .u8 47), .lit (.int .u8 59), .lit (.int .u8 36), .lit (.int .u8 45), .lit (.int .u8 43), .lit (.int .u8 51), .lit (.int .u8 22), .lit (.int .u8 53), .lit (.int .u8 39), .lit (.int .u8 33), .lit (.int .u8 30), .lit (.int .u8 24), .lit (.int .u8 18), .lit (.int .u8 12), .lit (.int .u8 5), .lit (.int .u8 63), .lit (.int .u8 55), .lit (.int .u8 48), .lit (.int .u8 27), .lit (.int .u8 60), .lit (.int .u8 41), .lit (.int .u8 37), .lit (.int .u8 16), .lit (.int .u8 46), .lit (.int .u8 35), .lit (.int .u8 44), .lit (.int .u8 21), .lit (.int .u8 52), .lit (.int .u8 32), .lit (.int .u8 23), .lit (.int .u8 11), .lit (.int .u8 54), .lit (.int .u8 26), .lit (.int .u8 40), .lit (.int .u8 15), .lit (.int .u8 34), .lit (.int .u8 20), .lit (.int .u8 31), .lit (.int .u8 10), .lit (.int .u8 25), .lit (.int .u8 14), .lit (.int .u8 19), .lit (.int .u8 9), .lit (.int .u8 13), .lit (.int .u8 8), .lit (.int .u8 7), .lit (.int .u8 6)]
def laid_internal_strconv_uint64pow10 {H : Type} : DataW H := .agg [.lit (.int .u64 1), .lit (.int .u64 10), .lit (.int .u64 100), .lit (.int .u64 1000), .lit (.int .u64 10000), .lit (.int .u64 100000), .lit (.int .u64 1000000), .lit (.int .u64 10000000), .lit (.int .u64 100000000), .lit (.int .u64 1000000000), .lit (.int .u64 10000000000), .lit (.int .u64 100000000000), .lit (.int .u64 1000000000000), .lit (.int .u64 10000000000000), .lit (.int .u64 100000000000000), .lit (.int .u64 1000000000000000), .lit (.int .u64 10000000000000000), .lit (.int .u64 100000000000000000), .lit (.int .u64 1000000000000000000), .lit (.int .u64 10000000000000000000)]
def laid_loop_example_g00925_impl_sineTable {H : Type} : DataW H := .agg [.lit (.int .i64 0), .lit (.int .i64 17452), .lit (.int .i64 34899), .lit (.int .i64 52336), .lit (.int .i64 69756), .lit (.int .i64 87156), .lit (.int .i64 104528), .lit (.int .i64 121869), .lit (.int .i64 139173), .lit (.int .i64 156434), .lit (.int .i64 173648), .lit (.int .i64 190809), .lit (.int .i64 207912), .lit (.int .i64 224951), .lit (.int .i64 241922), .lit (.int .i64 258819), .lit (.int .i64 275637), .lit (.int .i64 292372), .lit (.int .i64 309017), .lit (.int .i64 325568), .lit (.int .i64 342020), .lit (.int .i64 358368), .lit (.int .i64 374607), .lit (.int .i64 390731), .lit (.int .i64 406737), .lit (.int .i64 422618), .lit (.int .i64 438371), .lit (.int .i64 453990), .lit (.int .i64 469472), .lit (.int .i64 484810), .lit (.int .i64 500000), .lit (.int .i64 515038), .lit (.int .i64 529919), .lit (.int .i64 544639), .lit (.int .i64 559193), .lit (.int .i64 573576), .lit (.int .i64 587785), .lit (.int .i64 601815), .lit (.int .i64 615661), .lit (.int .i64 629320), .lit (.int .i64 642788), .lit (.int .i64 656059), .lit (.int .i64 669131), .lit (.int .i64 681998), .lit (.int .i64 694658), .lit (.int .i64 707107), .lit (.int .i64 719340), .lit (.int .i64 731354), .lit (.int .i64 743145), .lit (.int .i64 754710), .lit (.int .i64 766044), .lit (.int .i64 777146), .lit (.int .i64 788011), .lit (.int .i64 798636), .lit (.int .i64 809017), .lit (.int .i64 819152), .lit (.int .i64 829038), .lit (.int .i64 838671), .lit (.int .i64 848048), .lit (.int .i64 857167), .lit (.int .i64 866025), .lit (.int .i64 874620), .lit (.int .i64 882948), .lit (.int .i64 891007), .lit (.int .i64 898794), .lit (.int .i64 906308), .lit (.int .i64 913545), .lit (.int .i64 920505), .lit (.int .i64 927184), .lit (.int .i64 933580), .lit (.int .i64 939693), .lit (.int .i64 945519), .lit (.int .i64 951057), .lit (.int .i64 956305), .lit (.int .i64 961262), .lit (.int .i64 965926), .lit (.int .i64 970296), .lit (.int .i64 974370), .lit (.int .i64 978148), .lit (.int .i64 981627), .lit (.int .i64 984808), .lit (.int .i64 987688), .lit (.int .i64 990268), .lit (.int .i64 992546), .lit (.int .i64 994522), .lit (.int .i64 996195), .lit (.int .i64 997564), .lit (.int .i64 998630), .lit (.int .i64 999391), .lit (.int .i64 999848), .lit (.int .i64 1000000)]
def laid_loop_example_g00925_impl_clutterTable {H : Type} : DataW H := .agg [.agg [.lit (.string [111, 112, 101, 110]), .lit (.int .i64 0), .lit (.int .i64 0)], .agg [.lit (.string [102, 105, 101, 108, 100]), .lit (.int .i64 20), .lit (.int .i64 1000)], .agg [.lit (.string [119, 97, 116, 101, 114]), .lit (.int .i64 10), .lit (.int .i64 500)], .agg [.lit (.string [116, 114, 101, 101, 115]), .lit (.int .i64 120), .lit (.int .i64 12000)], .agg [.lit (.string [118, 105, 108, 108, 97, 103, 101]), .lit (.int .i64 70), .lit (.int .i64 8000)], .agg [.lit (.string [115, 117, 98, 117, 114, 98]), .lit (.int .i64 90), .lit (.int .i64 10000)], .agg [.lit (.string [116, 111, 119, 110]), .lit (.int .i64 160), .lit (.int .i64 16000)], .agg [.lit (.string [99, 105, 116, 121]), .lit (.int .i64 240), .lit (.int .i64 20000)]]

/-- 'laws.FnCoverage': WHATEVER THE INPUT: true; the input reads as it did. -/
def fnCoverageSpec : ChangeSpec := { name := "fnCoverage", vars := ["loop.example/g00925/impl.sineTable", "loop.example/g00925/impl.clutterTable"], fn := fun _ => fun
  | [d, g1, g2] => { results := [.lit (.bool true)], args := [d], vars := [g1, g2] }
  | _ => none }
def fnCoverageRow : OpenClaim := { program := "ytpakghepnahooaagreatdoor", sum := "0b8e2e24a174d6de8fcf4fa9b23da6848a276d86326190fba555d901deff52e7", func := "loop.example/g00925/laws.FnCoverage", spec := "fnCoverage", unfollowed := true, recurses := true, named := ["loop.example/g00925/impl.sineTable", "internal/strconv.uint64pow10", "math/bits.deBruijn32tab", "math/bits.deBruijn64tab", "loop.example/g00925/impl.clutterTable"], apart := false, laid := [("math/bits.deBruijn32tab", laid_math_bits_deBruijn32tab), ("math/bits.deBruijn64tab", laid_math_bits_deBruijn64tab), ("internal/strconv.uint64pow10", laid_internal_strconv_uint64pow10), ("loop.example/g00925/impl.sineTable", laid_loop_example_g00925_impl_sineTable), ("loop.example/g00925/impl.clutterTable", laid_loop_example_g00925_impl_clutterTable)] }
def FnCoverageSaid : Prop := fnCoverageRow.holds Tryz.pinned (OpenSpec.ofChange fnCoverageSpec)

/-- ITS FALSE NEIGHBOUR: 'it returns false'. Refute it at one input. -/
def fnCoverageWrong : ChangeSpec := { name := "fnCoverage", vars := ["loop.example/g00925/impl.sineTable", "loop.example/g00925/impl.clutterTable"], fn := fun _ => fun
  | [d, g1, g2] => { results := [.lit (.bool false)], args := [d], vars := [g1, g2] }
  | _ => none }
def FnCoverageWrongFalsely : Prop := fnCoverageRow.holds Tryz.pinned (OpenSpec.ofChange fnCoverageWrong)

/-- 'laws.FnLimits': WHATEVER THE INPUT: true; the input reads as it did. -/
def fnLimitsSpec : ChangeSpec := { name := "fnLimits", vars := ["loop.example/g00925/impl.sineTable", "loop.example/g00925/impl.clutterTable"], fn := fun _ => fun
  | [d, g1, g2] => { results := [.lit (.bool true)], args := [d], vars := [g1, g2] }
  | _ => none }
def fnLimitsRow : OpenClaim := { program := "ytpakghepnahooaagreatdoor", sum := "0b8e2e24a174d6de8fcf4fa9b23da6848a276d86326190fba555d901deff52e7", func := "loop.example/g00925/laws.FnLimits", spec := "fnLimits", unfollowed := true, recurses := true, named := ["loop.example/g00925/impl.sineTable", "internal/strconv.uint64pow10", "math/bits.deBruijn32tab", "math/bits.deBruijn64tab", "loop.example/g00925/impl.clutterTable"], apart := false, laid := [("math/bits.deBruijn32tab", laid_math_bits_deBruijn32tab), ("math/bits.deBruijn64tab", laid_math_bits_deBruijn64tab), ("internal/strconv.uint64pow10", laid_internal_strconv_uint64pow10), ("loop.example/g00925/impl.sineTable", laid_loop_example_g00925_impl_sineTable), ("loop.example/g00925/impl.clutterTable", laid_loop_example_g00925_impl_clutterTable)] }
def FnLimitsSaid : Prop := fnLimitsRow.holds Tryz.pinned (OpenSpec.ofChange fnLimitsSpec)

/-- ITS FALSE NEIGHBOUR: 'it returns false'. Refute it at one input. -/
def fnLimitsWrong : ChangeSpec := { name := "fnLimits", vars := ["loop.example/g00925/impl.sineTable", "loop.example/g00925/impl.clutterTable"], fn := fun _ => fun
  | [d, g1, g2] => { results := [.lit (.bool false)], args := [d], vars := [g1, g2] }
  | _ => none }
def FnLimitsWrongFalsely : Prop := fnLimitsRow.holds Tryz.pinned (OpenSpec.ofChange fnLimitsWrong)

/-- 'laws.FnReceived': WHATEVER THE INPUT: true; the input reads as it did. -/
def fnReceivedSpec : ChangeSpec := { name := "fnReceived", vars := ["loop.example/g00925/impl.sineTable", "loop.example/g00925/impl.clutterTable"], fn := fun _ => fun
  | [d1, d2, g1, g2] => { results := [.lit (.bool true)], args := [d1, d2], vars := [g1, g2] }
  | _ => none }
def fnReceivedRow : OpenClaim := { program := "ytpakghepnahooaagreatdoor", sum := "0b8e2e24a174d6de8fcf4fa9b23da6848a276d86326190fba555d901deff52e7", func := "loop.example/g00925/laws.FnReceived", spec := "fnReceived", unfollowed := true, recurses := true, named := ["loop.example/g00925/impl.sineTable", "internal/strconv.uint64pow10", "math/bits.deBruijn32tab", "math/bits.deBruijn64tab", "loop.example/g00925/impl.clutterTable"], apart := false, laid := [("math/bits.deBruijn32tab", laid_math_bits_deBruijn32tab), ("math/bits.deBruijn64tab", laid_math_bits_deBruijn64tab), ("internal/strconv.uint64pow10", laid_internal_strconv_uint64pow10), ("loop.example/g00925/impl.sineTable", laid_loop_example_g00925_impl_sineTable), ("loop.example/g00925/impl.clutterTable", laid_loop_example_g00925_impl_clutterTable)] }
def FnReceivedSaid : Prop := fnReceivedRow.holds Tryz.pinned (OpenSpec.ofChange fnReceivedSpec)

/-- ITS FALSE NEIGHBOUR: 'it returns false'. Refute it at one input. -/
def fnReceivedWrong : ChangeSpec := { name := "fnReceived", vars := ["loop.example/g00925/impl.sineTable", "loop.example/g00925/impl.clutterTable"], fn := fun _ => fun
  | [d1, d2, g1, g2] => { results := [.lit (.bool false)], args := [d1, d2], vars := [g1, g2] }
  | _ => none }
def FnReceivedWrongFalsely : Prop := fnReceivedRow.holds Tryz.pinned (OpenSpec.ofChange fnReceivedWrong)

/- THE SECOND FORM. 'bulk': how many values and letters a reading holds, each counted each time it is reached (what is shared counts as often as it is met; a slice's spare places count too). A statement '..UptoSaid' is the law's where the arguments, and the package variables that the reading takes, are together of bulk at most 1048576: NARROWER than '..Said'. Prove '..Said' where nothing that the law and all that it calls make is longer than what came in: it says more and counts as full. Else prove '..UptoSaid'. A law counts once. -/
mutual
def uptoBulk {H : Type} : DataW H → Nat
  | .lit (.string bytes) => bytes.length + 1
  | .lit _ => 1
  | .nil => 1
  | .ptr d => uptoBulk d + 1
  | .slice elems spare => uptoBulkAll elems + uptoBulkAll spare + 1
  | .agg parts => uptoBulkAll parts + 1
  | .iface _ d => uptoBulk d + 1
  | .map entries => uptoBulkEntries entries + 1
  | .held _ => 1
def uptoBulkAll {H : Type} : List (DataW H) → Nat
  | [] => 0
  | d :: r => uptoBulk d + uptoBulkAll r
def uptoBulkEntries {H : Type} : List (Lit × DataW H) → Nat
  | [] => 0
  | x :: r => uptoBulkEntry x + uptoBulkEntries r
def uptoBulkEntry {H : Type} : Lit × DataW H → Nat
  | (.string bytes, d) => bytes.length + uptoBulk d + 1
  | (_, d) => uptoBulk d + 1
 end
def uptoSmall : (H : Type) → List (DataW H) → Bool := fun _ ds => decide (uptoBulkAll ds ≤ 1048576)
def OpenSpec.upto (s : _root_.Go.ChangeSpec) : _root_.Go.OpenSpec := { _root_.Go.OpenSpec.ofChange s with cond := some uptoSmall }

/-- 'laws.FnCoverage', WHERE WHAT IT READS IS OF BULK AT MOST 1048576: true; the input reads as it did. -/
def fnCoverageUptoRow : OpenClaim := { program := "ytpakghepnahooaagreatdoor", sum := "0b8e2e24a174d6de8fcf4fa9b23da6848a276d86326190fba555d901deff52e7", func := "loop.example/g00925/laws.FnCoverage", spec := "fnCoverage", unfollowed := true, recurses := true, named := ["loop.example/g00925/impl.sineTable", "internal/strconv.uint64pow10", "math/bits.deBruijn32tab", "math/bits.deBruijn64tab", "loop.example/g00925/impl.clutterTable"], apart := false, laid := [("math/bits.deBruijn32tab", laid_math_bits_deBruijn32tab), ("math/bits.deBruijn64tab", laid_math_bits_deBruijn64tab), ("internal/strconv.uint64pow10", laid_internal_strconv_uint64pow10), ("loop.example/g00925/impl.sineTable", laid_loop_example_g00925_impl_sineTable), ("loop.example/g00925/impl.clutterTable", laid_loop_example_g00925_impl_clutterTable)], narrowed := true }
def FnCoverageUptoSaid : Prop := fnCoverageUptoRow.holds Tryz.pinned (OpenSpec.upto fnCoverageSpec)

/-- 'laws.FnLimits', WHERE WHAT IT READS IS OF BULK AT MOST 1048576: true; the input reads as it did. -/
def fnLimitsUptoRow : OpenClaim := { program := "ytpakghepnahooaagreatdoor", sum := "0b8e2e24a174d6de8fcf4fa9b23da6848a276d86326190fba555d901deff52e7", func := "loop.example/g00925/laws.FnLimits", spec := "fnLimits", unfollowed := true, recurses := true, named := ["loop.example/g00925/impl.sineTable", "internal/strconv.uint64pow10", "math/bits.deBruijn32tab", "math/bits.deBruijn64tab", "loop.example/g00925/impl.clutterTable"], apart := false, laid := [("math/bits.deBruijn32tab", laid_math_bits_deBruijn32tab), ("math/bits.deBruijn64tab", laid_math_bits_deBruijn64tab), ("internal/strconv.uint64pow10", laid_internal_strconv_uint64pow10), ("loop.example/g00925/impl.sineTable", laid_loop_example_g00925_impl_sineTable), ("loop.example/g00925/impl.clutterTable", laid_loop_example_g00925_impl_clutterTable)], narrowed := true }
def FnLimitsUptoSaid : Prop := fnLimitsUptoRow.holds Tryz.pinned (OpenSpec.upto fnLimitsSpec)

/-- 'laws.FnReceived', WHERE WHAT IT READS IS OF BULK AT MOST 1048576: true; the input reads as it did. -/
def fnReceivedUptoRow : OpenClaim := { program := "ytpakghepnahooaagreatdoor", sum := "0b8e2e24a174d6de8fcf4fa9b23da6848a276d86326190fba555d901deff52e7", func := "loop.example/g00925/laws.FnReceived", spec := "fnReceived", unfollowed := true, recurses := true, named := ["loop.example/g00925/impl.sineTable", "internal/strconv.uint64pow10", "math/bits.deBruijn32tab", "math/bits.deBruijn64tab", "loop.example/g00925/impl.clutterTable"], apart := false, laid := [("math/bits.deBruijn32tab", laid_math_bits_deBruijn32tab), ("math/bits.deBruijn64tab", laid_math_bits_deBruijn64tab), ("internal/strconv.uint64pow10", laid_internal_strconv_uint64pow10), ("loop.example/g00925/impl.sineTable", laid_loop_example_g00925_impl_sineTable), ("loop.example/g00925/impl.clutterTable", laid_loop_example_g00925_impl_clutterTable)], narrowed := true }
def FnReceivedUptoSaid : Prop := fnReceivedUptoRow.holds Tryz.pinned (OpenSpec.upto fnReceivedSpec)

end Rows
end Go.Proofs.YtpakghepnahooaaGreatDoor
