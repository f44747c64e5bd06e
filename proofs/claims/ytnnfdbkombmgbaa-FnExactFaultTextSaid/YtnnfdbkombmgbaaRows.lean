/-
  No cell of these rows narrows 'for every input' (looked for: loops, veiled, ifaces, maps, wideKeys, modest, calm, conditions, laid).
  DERIVED. THE GIVEN ROWS OF THIS SEAT. 3 by the template 'for every input the law returns true; each argument reads behind the call as it read before'; 0 by the template 'total and deterministic' (their statements: YtnnfdbkombmgbaaTotals.lean).
  GIVEN WITH THE SEED: the statements are not yours to turn. If you find one false, say at which input.
  Laid BY PROGRAM, IN A SANDBOX (cutbox-rows.mjs): the forced cells as the released guide's own fill.sh prints them over the translation fb0e579877b866c2… (all of the seat's roots in one cut). By AI agents, Wed Nov 11 2026. No macro, syntax, notation, axiom, sorry.
-/
import Derived.Test.YtnnfdbkombmgbaaChecked
import GoSem.Claim
import GoSem.ClaimJoined
import GoSem.ClaimMapViews
import Derived.JoinedTies
import Derived.KernelRfl
namespace Go.Proofs.Ytnnfdbkombmgbaa
/- THE CELL 'sum', in the pinned program and in every row, IS THE sha256 OF THE DUMP (.gsa) THAT YtnnfdbkombmgbaaProg.lean LOADS. Nothing in Lean hashes anything: it is a label: what it is worth is what the hold of that sum in a sandbox is worth. -/
noncomputable def Try.pinned : Pinned := { name := "ytnnfdbkombmgbaa", sum := "fb0e579877b866c25545411372d56f423c128317da816b721e02bbe0cf17acb3", checked := Try.checked }
namespace Rows
def none {H : Type} : Left H := { results := [], args := [] }

/-- 'laws.FnExactFaultName': WHATEVER THE INPUT: true; the input reads as it did. -/
def fnExactFaultNameSpec : ChangeSpec := { name := "fnExactFaultName", fn := fun _ => fun
  | [d] => { results := [.lit (.bool true)], args := [d] }
  | _ => none }
def fnExactFaultNameRow : OpenClaim := { program := "ytnnfdbkombmgbaa", sum := "fb0e579877b866c25545411372d56f423c128317da816b721e02bbe0cf17acb3", func := "loop.example/g00925/laws.FnExactFaultName", spec := "fnExactFaultName", apart := false }
def FnExactFaultNameSaid : Prop := fnExactFaultNameRow.holds Try.pinned (OpenSpec.ofChange fnExactFaultNameSpec)

/-- ITS FALSE NEIGHBOUR: 'it returns false'. Refute it at one input. -/
def fnExactFaultNameWrong : ChangeSpec := { name := "fnExactFaultName", fn := fun _ => fun
  | [d] => { results := [.lit (.bool false)], args := [d] }
  | _ => none }
def FnExactFaultNameWrongFalsely : Prop := fnExactFaultNameRow.holds Try.pinned (OpenSpec.ofChange fnExactFaultNameWrong)

/-- 'laws.FnExactFaultText': WHATEVER THE INPUT: true; the input reads as it did. -/
def fnExactFaultTextSpec : ChangeSpec := { name := "fnExactFaultText", fn := fun _ => fun
  | [d] => { results := [.lit (.bool true)], args := [d] }
  | _ => none }
def fnExactFaultTextRow : OpenClaim := { program := "ytnnfdbkombmgbaa", sum := "fb0e579877b866c25545411372d56f423c128317da816b721e02bbe0cf17acb3", func := "loop.example/g00925/laws.FnExactFaultText", spec := "fnExactFaultText", apart := false }
def FnExactFaultTextSaid : Prop := fnExactFaultTextRow.holds Try.pinned (OpenSpec.ofChange fnExactFaultTextSpec)

/-- ITS FALSE NEIGHBOUR: 'it returns false'. Refute it at one input. -/
def fnExactFaultTextWrong : ChangeSpec := { name := "fnExactFaultText", fn := fun _ => fun
  | [d] => { results := [.lit (.bool false)], args := [d] }
  | _ => none }
def FnExactFaultTextWrongFalsely : Prop := fnExactFaultTextRow.holds Try.pinned (OpenSpec.ofChange fnExactFaultTextWrong)

/-- 'laws.FnExactCountFaults': WHATEVER THE INPUT: true; the input reads as it did. -/
def fnExactCountFaultsSpec : ChangeSpec := { name := "fnExactCountFaults", fn := fun _ => fun
  | [d] => { results := [.lit (.bool true)], args := [d] }
  | _ => none }
def fnExactCountFaultsRow : OpenClaim := { program := "ytnnfdbkombmgbaa", sum := "fb0e579877b866c25545411372d56f423c128317da816b721e02bbe0cf17acb3", func := "loop.example/g00925/laws.FnExactCountFaults", spec := "fnExactCountFaults", apart := false }
def FnExactCountFaultsSaid : Prop := fnExactCountFaultsRow.holds Try.pinned (OpenSpec.ofChange fnExactCountFaultsSpec)

/-- ITS FALSE NEIGHBOUR: 'it returns false'. Refute it at one input. -/
def fnExactCountFaultsWrong : ChangeSpec := { name := "fnExactCountFaults", fn := fun _ => fun
  | [d] => { results := [.lit (.bool false)], args := [d] }
  | _ => none }
def FnExactCountFaultsWrongFalsely : Prop := fnExactCountFaultsRow.holds Try.pinned (OpenSpec.ofChange fnExactCountFaultsWrong)

/- THE SECOND FORM. 'bulk': how many values and letters a reading holds, each counted each time it is reached (what is shared counts as often as it is met; a slice's spare places count too). A statement '..UptoSaid' is the law's where the arguments, and the package variables that the reading takes, are together of bulk at most 1048576: NARROWER than '..Said'. Prove '..Said' where nothing that the law and all that it calls make is longer than what came in: it says more and counts as full. Else prove '..UptoSaid'. A law counts once. -/
mutual
def uptoBulk {H : Type} : DataW H → Nat
  | .lit (.string bytes) => bytes.length + 1
  | .lit _ => 1
  | .nil => 1
  | .ptr d => uptoBulk d + 1
  | .slice elems spare => uptoBulkAll elems + uptoBulkAll spare + 1
  | .agg parts => uptoBulkAll parts + 1
  | .iface _ d => uptoBulk d + 1
  | .map entries => uptoBulkEntries entries + 1
  | .held _ => 1
def uptoBulkAll {H : Type} : List (DataW H) → Nat
  | [] => 0
  | d :: r => uptoBulk d + uptoBulkAll r
def uptoBulkEntries {H : Type} : List (Lit × DataW H) → Nat
  | [] => 0
  | x :: r => uptoBulkEntry x + uptoBulkEntries r
def uptoBulkEntry {H : Type} : Lit × DataW H → Nat
  | (.string bytes, d) => bytes.length + uptoBulk d + 1
  | (_, d) => uptoBulk d + 1
 end
def uptoSmall : (H : Type) → List (DataW H) → Bool := fun _ ds => decide (uptoBulkAll ds ≤ 1048576)
def OpenSpec.upto (s : _root_.Go.ChangeSpec) : _root_.Go.OpenSpec := { _root_.Go.OpenSpec.ofChange s with cond := some uptoSmall }

/-- 'laws.FnExactFaultName', WHERE WHAT IT READS IS OF BULK AT MOST 1048576: true; the input reads as it did. -/
def fnExactFaultNameUptoRow : OpenClaim := { program := "ytnnfdbkombmgbaa", sum := "fb0e579877b866c25545411372d56f423c128317da816b721e02bbe0cf17acb3", func := "loop.example/g00925/laws.FnExactFaultName", spec := "fnExactFaultName", apart := false, narrowed := true }
def FnExactFaultNameUptoSaid : Prop := fnExactFaultNameUptoRow.holds Try.pinned (OpenSpec.upto fnExactFaultNameSpec)

/-- 'laws.FnExactFaultText', WHERE WHAT IT READS IS OF BULK AT MOST 1048576: true; the input reads as it did. -/
def fnExactFaultTextUptoRow : OpenClaim := { program := "ytnnfdbkombmgbaa", sum := "fb0e579877b866c25545411372d56f423c128317da816b721e02bbe0cf17acb3", func := "loop.example/g00925/laws.FnExactFaultText", spec := "fnExactFaultText", apart := false, narrowed := true }
def FnExactFaultTextUptoSaid : Prop := fnExactFaultTextUptoRow.holds Try.pinned (OpenSpec.upto fnExactFaultTextSpec)

/-- 'laws.FnExactCountFaults', WHERE WHAT IT READS IS OF BULK AT MOST 1048576: true; the input reads as it did. -/
def fnExactCountFaultsUptoRow : OpenClaim := { program := "ytnnfdbkombmgbaa", sum := "fb0e579877b866c25545411372d56f423c128317da816b721e02bbe0cf17acb3", func := "loop.example/g00925/laws.FnExactCountFaults", spec := "fnExactCountFaults", apart := false, narrowed := true }
def FnExactCountFaultsUptoSaid : Prop := fnExactCountFaultsUptoRow.holds Try.pinned (OpenSpec.upto fnExactCountFaultsSpec)

end Rows
end Go.Proofs.Ytnnfdbkombmgbaa
