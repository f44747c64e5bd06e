/-
  No cell of these rows narrows 'for every input' (looked for: loops, veiled, ifaces, maps, wideKeys, modest, calm, conditions, laid).
  DERIVED. THE GIVEN ROWS OF THIS SEAT. 5 by the template 'for every input the law returns true; each argument reads behind the call as it read before'; 0 by the template 'total and deterministic' (their statements: YtlfkdhakibagaaaGreatTotals.lean).
  GIVEN WITH THE SEED: the statements are not yours to turn. If you find one false, say at which input.
  Laid BY PROGRAM, IN A SANDBOX (cutbox-rows.mjs): the forced cells as the released guide's own fill.sh prints them over the translation b64aa7c24d1b2b01… (all of the seat's roots in one cut). By AI agents, Wed Nov 11 2026. No macro, syntax, notation, axiom, sorry.
-/
import Derived.Test.YtlfkdhakibagaaaGreatChecked
import GoSem.Claim
import GoSem.ClaimJoined
import GoSem.ClaimMapViews
import Derived.JoinedTies
import Derived.KernelRfl
namespace Go.Proofs.YtlfkdhakibagaaaGreat
/- THE CELL 'sum', in the pinned program and in every row, IS THE sha256 OF THE DUMP (.gsa) THAT YtlfkdhakibagaaaGreatProg.lean LOADS. Nothing in Lean hashes anything: it is a label: what it is worth is what the hold of that sum in a sandbox is worth. -/
noncomputable def Tryz.pinned : Pinned := { name := "ytlfkdhakibagaaagreat", sum := "b64aa7c24d1b2b01c50851bbe01ff4a2e0a06f87931ef309f6c5b3c15d6c367c", checked := Tryz.checked }
namespace Rows
def none {H : Type} : Left H := { results := [], args := [] }

/-- 'laws.FnExactSameDesk': WHATEVER THE INPUT: true; the input reads as it did. -/
def fnExactSameDeskSpec : ChangeSpec := { name := "fnExactSameDesk", fn := fun _ => fun
  | [d1, d2] => { results := [.lit (.bool true)], args := [d1, d2] }
  | _ => none }
def fnExactSameDeskRow : OpenClaim := { program := "ytlfkdhakibagaaagreat", sum := "b64aa7c24d1b2b01c50851bbe01ff4a2e0a06f87931ef309f6c5b3c15d6c367c", func := "loop.example/g00925/laws.FnExactSameDesk", spec := "fnExactSameDesk", unfollowed := true, recurses := true, apart := false }
def FnExactSameDeskSaid : Prop := fnExactSameDeskRow.holds Tryz.pinned (OpenSpec.ofChange fnExactSameDeskSpec)

/-- ITS FALSE NEIGHBOUR: 'it returns false'. Refute it at one input. -/
def fnExactSameDeskWrong : ChangeSpec := { name := "fnExactSameDesk", fn := fun _ => fun
  | [d1, d2] => { results := [.lit (.bool false)], args := [d1, d2] }
  | _ => none }
def FnExactSameDeskWrongFalsely : Prop := fnExactSameDeskRow.holds Tryz.pinned (OpenSpec.ofChange fnExactSameDeskWrong)

/-- 'laws.FnExactValidPlan': WHATEVER THE INPUT: true; the input reads as it did. -/
def fnExactValidPlanSpec : ChangeSpec := { name := "fnExactValidPlan", fn := fun _ => fun
  | [d] => { results := [.lit (.bool true)], args := [d] }
  | _ => none }
def fnExactValidPlanRow : OpenClaim := { program := "ytlfkdhakibagaaagreat", sum := "b64aa7c24d1b2b01c50851bbe01ff4a2e0a06f87931ef309f6c5b3c15d6c367c", func := "loop.example/g00925/laws.FnExactValidPlan", spec := "fnExactValidPlan", unfollowed := true, recurses := true, apart := false }
def FnExactValidPlanSaid : Prop := fnExactValidPlanRow.holds Tryz.pinned (OpenSpec.ofChange fnExactValidPlanSpec)

/-- ITS FALSE NEIGHBOUR: 'it returns false'. Refute it at one input. -/
def fnExactValidPlanWrong : ChangeSpec := { name := "fnExactValidPlan", fn := fun _ => fun
  | [d] => { results := [.lit (.bool false)], args := [d] }
  | _ => none }
def FnExactValidPlanWrongFalsely : Prop := fnExactValidPlanRow.holds Tryz.pinned (OpenSpec.ofChange fnExactValidPlanWrong)

/-- 'laws.FnExactValidDesk': WHATEVER THE INPUT: true; the input reads as it did. -/
def fnExactValidDeskSpec : ChangeSpec := { name := "fnExactValidDesk", fn := fun _ => fun
  | [d] => { results := [.lit (.bool true)], args := [d] }
  | _ => none }
def fnExactValidDeskRow : OpenClaim := { program := "ytlfkdhakibagaaagreat", sum := "b64aa7c24d1b2b01c50851bbe01ff4a2e0a06f87931ef309f6c5b3c15d6c367c", func := "loop.example/g00925/laws.FnExactValidDesk", spec := "fnExactValidDesk", unfollowed := true, recurses := true, apart := false }
def FnExactValidDeskSaid : Prop := fnExactValidDeskRow.holds Tryz.pinned (OpenSpec.ofChange fnExactValidDeskSpec)

/-- ITS FALSE NEIGHBOUR: 'it returns false'. Refute it at one input. -/
def fnExactValidDeskWrong : ChangeSpec := { name := "fnExactValidDesk", fn := fun _ => fun
  | [d] => { results := [.lit (.bool false)], args := [d] }
  | _ => none }
def FnExactValidDeskWrongFalsely : Prop := fnExactValidDeskRow.holds Tryz.pinned (OpenSpec.ofChange fnExactValidDeskWrong)

/-- 'laws.FnExactRangeOf': WHATEVER THE INPUT: true; the input reads as it did. -/
def fnExactRangeOfSpec : ChangeSpec := { name := "fnExactRangeOf", fn := fun _ => fun
  | [d1, d2] => { results := [.lit (.bool true)], args := [d1, d2] }
  | _ => none }
def fnExactRangeOfRow : OpenClaim := { program := "ytlfkdhakibagaaagreat", sum := "b64aa7c24d1b2b01c50851bbe01ff4a2e0a06f87931ef309f6c5b3c15d6c367c", func := "loop.example/g00925/laws.FnExactRangeOf", spec := "fnExactRangeOf", unfollowed := true, recurses := true, apart := false }
def FnExactRangeOfSaid : Prop := fnExactRangeOfRow.holds Tryz.pinned (OpenSpec.ofChange fnExactRangeOfSpec)

/-- ITS FALSE NEIGHBOUR: 'it returns false'. Refute it at one input. -/
def fnExactRangeOfWrong : ChangeSpec := { name := "fnExactRangeOf", fn := fun _ => fun
  | [d1, d2] => { results := [.lit (.bool false)], args := [d1, d2] }
  | _ => none }
def FnExactRangeOfWrongFalsely : Prop := fnExactRangeOfRow.holds Tryz.pinned (OpenSpec.ofChange fnExactRangeOfWrong)

/-- 'laws.FnExactLicenceOf': WHATEVER THE INPUT: true; the input reads as it did. -/
def fnExactLicenceOfSpec : ChangeSpec := { name := "fnExactLicenceOf", fn := fun _ => fun
  | [d1, d2] => { results := [.lit (.bool true)], args := [d1, d2] }
  | _ => none }
def fnExactLicenceOfRow : OpenClaim := { program := "ytlfkdhakibagaaagreat", sum := "b64aa7c24d1b2b01c50851bbe01ff4a2e0a06f87931ef309f6c5b3c15d6c367c", func := "loop.example/g00925/laws.FnExactLicenceOf", spec := "fnExactLicenceOf", unfollowed := true, recurses := true, apart := false }
def FnExactLicenceOfSaid : Prop := fnExactLicenceOfRow.holds Tryz.pinned (OpenSpec.ofChange fnExactLicenceOfSpec)

/-- ITS FALSE NEIGHBOUR: 'it returns false'. Refute it at one input. -/
def fnExactLicenceOfWrong : ChangeSpec := { name := "fnExactLicenceOf", fn := fun _ => fun
  | [d1, d2] => { results := [.lit (.bool false)], args := [d1, d2] }
  | _ => none }
def FnExactLicenceOfWrongFalsely : Prop := fnExactLicenceOfRow.holds Tryz.pinned (OpenSpec.ofChange fnExactLicenceOfWrong)

/- THE SECOND FORM. 'bulk': how many values and letters a reading holds, each counted each time it is reached (what is shared counts as often as it is met; a slice's spare places count too). A statement '..UptoSaid' is the law's where the arguments, and the package variables that the reading takes, are together of bulk at most 1048576: NARROWER than '..Said'. Prove '..Said' where nothing that the law and all that it calls make is longer than what came in: it says more and counts as full. Else prove '..UptoSaid'. A law counts once. -/
mutual
def uptoBulk {H : Type} : DataW H → Nat
  | .lit (.string bytes) => bytes.length + 1
  | .lit _ => 1
  | .nil => 1
  | .ptr d => uptoBulk d + 1
  | .slice elems spare => uptoBulkAll elems + uptoBulkAll spare + 1
  | .agg parts => uptoBulkAll parts + 1
  | .iface _ d => uptoBulk d + 1
  | .map entries => uptoBulkEntries entries + 1
  | .held _ => 1
def uptoBulkAll {H : Type} : List (DataW H) → Nat
  | [] => 0
  | d :: r => uptoBulk d + uptoBulkAll r
def uptoBulkEntries {H : Type} : List (Lit × DataW H) → Nat
  | [] => 0
  | x :: r => uptoBulkEntry x + uptoBulkEntries r
def uptoBulkEntry {H : Type} : Lit × DataW H → Nat
  | (.string bytes, d) => bytes.length + uptoBulk d + 1
  | (_, d) => uptoBulk d + 1
 end
def uptoSmall : (H : Type) → List (DataW H) → Bool := fun _ ds => decide (uptoBulkAll ds ≤ 1048576)
def OpenSpec.upto (s : _root_.Go.ChangeSpec) : _root_.Go.OpenSpec := { _root_.Go.OpenSpec.ofChange s with cond := some uptoSmall }

/-- 'laws.FnExactSameDesk', WHERE WHAT IT READS IS OF BULK AT MOST 1048576: true; the input reads as it did. -/
def fnExactSameDeskUptoRow : OpenClaim := { program := "ytlfkdhakibagaaagreat", sum := "b64aa7c24d1b2b01c50851bbe01ff4a2e0a06f87931ef309f6c5b3c15d6c367c", func := "loop.example/g00925/laws.FnExactSameDesk", spec := "fnExactSameDesk", unfollowed := true, recurses := true, apart := false, narrowed := true }
def FnExactSameDeskUptoSaid : Prop := fnExactSameDeskUptoRow.holds Tryz.pinned (OpenSpec.upto fnExactSameDeskSpec)

/-- 'laws.FnExactValidPlan', WHERE WHAT IT READS IS OF BULK AT MOST 1048576: true; the input reads as it did. -/
def fnExactValidPlanUptoRow : OpenClaim := { program := "ytlfkdhakibagaaagreat", sum := "b64aa7c24d1b2b01c50851bbe01ff4a2e0a06f87931ef309f6c5b3c15d6c367c", func := "loop.example/g00925/laws.FnExactValidPlan", spec := "fnExactValidPlan", unfollowed := true, recurses := true, apart := false, narrowed := true }
def FnExactValidPlanUptoSaid : Prop := fnExactValidPlanUptoRow.holds Tryz.pinned (OpenSpec.upto fnExactValidPlanSpec)

/-- 'laws.FnExactValidDesk', WHERE WHAT IT READS IS OF BULK AT MOST 1048576: true; the input reads as it did. -/
def fnExactValidDeskUptoRow : OpenClaim := { program := "ytlfkdhakibagaaagreat", sum := "b64aa7c24d1b2b01c50851bbe01ff4a2e0a06f87931ef309f6c5b3c15d6c367c", func := "loop.example/g00925/laws.FnExactValidDesk", spec := "fnExactValidDesk", unfollowed := true, recurses := true, apart := false, narrowed := true }
def FnExactValidDeskUptoSaid : Prop := fnExactValidDeskUptoRow.holds Tryz.pinned (OpenSpec.upto fnExactValidDeskSpec)

/-- 'laws.FnExactRangeOf', WHERE WHAT IT READS IS OF BULK AT MOST 1048576: true; the input reads as it did. -/
def fnExactRangeOfUptoRow : OpenClaim := { program := "ytlfkdhakibagaaagreat", sum := "b64aa7c24d1b2b01c50851bbe01ff4a2e0a06f87931ef309f6c5b3c15d6c367c", func := "loop.example/g00925/laws.FnExactRangeOf", spec := "fnExactRangeOf", unfollowed := true, recurses := true, apart := false, narrowed := true }
def FnExactRangeOfUptoSaid : Prop := fnExactRangeOfUptoRow.holds Tryz.pinned (OpenSpec.upto fnExactRangeOfSpec)

/-- 'laws.FnExactLicenceOf', WHERE WHAT IT READS IS OF BULK AT MOST 1048576: true; the input reads as it did. -/
def fnExactLicenceOfUptoRow : OpenClaim := { program := "ytlfkdhakibagaaagreat", sum := "b64aa7c24d1b2b01c50851bbe01ff4a2e0a06f87931ef309f6c5b3c15d6c367c", func := "loop.example/g00925/laws.FnExactLicenceOf", spec := "fnExactLicenceOf", unfollowed := true, recurses := true, apart := false, narrowed := true }
def FnExactLicenceOfUptoSaid : Prop := fnExactLicenceOfUptoRow.holds Tryz.pinned (OpenSpec.upto fnExactLicenceOfSpec)

end Rows
end Go.Proofs.YtlfkdhakibagaaaGreat
