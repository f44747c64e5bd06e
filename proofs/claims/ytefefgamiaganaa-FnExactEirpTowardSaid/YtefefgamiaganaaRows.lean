/-
  No cell of these rows narrows 'for every input' (looked for: loops, veiled, ifaces, maps, wideKeys, modest, calm, conditions, laid).
  DERIVED. THE GIVEN ROWS OF THIS SEAT. 6 by the template 'for every input the law returns true; each argument reads behind the call as it read before'; 0 by the template 'total and deterministic' (their statements: YtefefgamiaganaaTotals.lean).
  GIVEN WITH THE SEED: the statements are not yours to turn. If you find one false, say at which input.
  Laid BY PROGRAM, IN A SANDBOX (cutbox-rows.mjs): the forced cells as the released guide's own fill.sh prints them over the translation b863ab9f58ac8171… (all of the seat's roots in one cut). By AI agents, Wed Nov 11 2026. No macro, syntax, notation, axiom, sorry.
-/
import Derived.Test.YtefefgamiaganaaChecked
import GoSem.Claim
import GoSem.ClaimJoined
import GoSem.ClaimMapViews
import Derived.JoinedTies
import Derived.KernelRfl
namespace Go.Proofs.Ytefefgamiaganaa
/- THE CELL 'sum', in the pinned program and in every row, IS THE sha256 OF THE DUMP (.gsa) THAT YtefefgamiaganaaProg.lean LOADS. Nothing in Lean hashes anything: it is a label: what it is worth is what the hold of that sum in a sandbox is worth. -/
noncomputable def Try.pinned : Pinned := { name := "ytefefgamiaganaa", sum := "b863ab9f58ac8171de875b16f094a28f098d232ea930b52bfc96e14413bdef41", checked := Try.checked }
namespace Rows
def none {H : Type} : Left H := { results := [], args := [] }

/-- 'laws.FnExactSiteNamed': WHATEVER THE INPUT: true; the input reads as it did. -/
def fnExactSiteNamedSpec : ChangeSpec := { name := "fnExactSiteNamed", fn := fun _ => fun
  | [d1, d2] => { results := [.lit (.bool true)], args := [d1, d2] }
  | _ => none }
def fnExactSiteNamedRow : OpenClaim := { program := "ytefefgamiaganaa", sum := "b863ab9f58ac8171de875b16f094a28f098d232ea930b52bfc96e14413bdef41", func := "loop.example/g00925/laws.FnExactSiteNamed", spec := "fnExactSiteNamed", unfollowed := true, recurses := true, apart := false }
def FnExactSiteNamedSaid : Prop := fnExactSiteNamedRow.holds Try.pinned (OpenSpec.ofChange fnExactSiteNamedSpec)

/-- ITS FALSE NEIGHBOUR: 'it returns false'. Refute it at one input. -/
def fnExactSiteNamedWrong : ChangeSpec := { name := "fnExactSiteNamed", fn := fun _ => fun
  | [d1, d2] => { results := [.lit (.bool false)], args := [d1, d2] }
  | _ => none }
def FnExactSiteNamedWrongFalsely : Prop := fnExactSiteNamedRow.holds Try.pinned (OpenSpec.ofChange fnExactSiteNamedWrong)

/-- 'laws.FnExactSectorNamed': WHATEVER THE INPUT: true; the input reads as it did. -/
def fnExactSectorNamedSpec : ChangeSpec := { name := "fnExactSectorNamed", fn := fun _ => fun
  | [d1, d2] => { results := [.lit (.bool true)], args := [d1, d2] }
  | _ => none }
def fnExactSectorNamedRow : OpenClaim := { program := "ytefefgamiaganaa", sum := "b863ab9f58ac8171de875b16f094a28f098d232ea930b52bfc96e14413bdef41", func := "loop.example/g00925/laws.FnExactSectorNamed", spec := "fnExactSectorNamed", unfollowed := true, recurses := true, apart := false }
def FnExactSectorNamedSaid : Prop := fnExactSectorNamedRow.holds Try.pinned (OpenSpec.ofChange fnExactSectorNamedSpec)

/-- ITS FALSE NEIGHBOUR: 'it returns false'. Refute it at one input. -/
def fnExactSectorNamedWrong : ChangeSpec := { name := "fnExactSectorNamed", fn := fun _ => fun
  | [d1, d2] => { results := [.lit (.bool false)], args := [d1, d2] }
  | _ => none }
def FnExactSectorNamedWrongFalsely : Prop := fnExactSectorNamedRow.holds Try.pinned (OpenSpec.ofChange fnExactSectorNamedWrong)

/-- 'laws.FnExactEndOf': WHATEVER THE INPUT: true; the input reads as it did. -/
def fnExactEndOfSpec : ChangeSpec := { name := "fnExactEndOf", fn := fun _ => fun
  | [d1, d2] => { results := [.lit (.bool true)], args := [d1, d2] }
  | _ => none }
def fnExactEndOfRow : OpenClaim := { program := "ytefefgamiaganaa", sum := "b863ab9f58ac8171de875b16f094a28f098d232ea930b52bfc96e14413bdef41", func := "loop.example/g00925/laws.FnExactEndOf", spec := "fnExactEndOf", unfollowed := true, recurses := true, apart := false }
def FnExactEndOfSaid : Prop := fnExactEndOfRow.holds Try.pinned (OpenSpec.ofChange fnExactEndOfSpec)

/-- ITS FALSE NEIGHBOUR: 'it returns false'. Refute it at one input. -/
def fnExactEndOfWrong : ChangeSpec := { name := "fnExactEndOf", fn := fun _ => fun
  | [d1, d2] => { results := [.lit (.bool false)], args := [d1, d2] }
  | _ => none }
def FnExactEndOfWrongFalsely : Prop := fnExactEndOfRow.holds Try.pinned (OpenSpec.ofChange fnExactEndOfWrong)

/-- 'laws.FnExactEirpToward': WHATEVER THE INPUT: true; the input reads as it did. -/
def fnExactEirpTowardSpec : ChangeSpec := { name := "fnExactEirpToward", fn := fun _ => fun
  | [d1, d2, d3, d4] => { results := [.lit (.bool true)], args := [d1, d2, d3, d4] }
  | _ => none }
def fnExactEirpTowardRow : OpenClaim := { program := "ytefefgamiaganaa", sum := "b863ab9f58ac8171de875b16f094a28f098d232ea930b52bfc96e14413bdef41", func := "loop.example/g00925/laws.FnExactEirpToward", spec := "fnExactEirpToward", unfollowed := true, recurses := true, apart := false }
def FnExactEirpTowardSaid : Prop := fnExactEirpTowardRow.holds Try.pinned (OpenSpec.ofChange fnExactEirpTowardSpec)

/-- ITS FALSE NEIGHBOUR: 'it returns false'. Refute it at one input. -/
def fnExactEirpTowardWrong : ChangeSpec := { name := "fnExactEirpToward", fn := fun _ => fun
  | [d1, d2, d3, d4] => { results := [.lit (.bool false)], args := [d1, d2, d3, d4] }
  | _ => none }
def FnExactEirpTowardWrongFalsely : Prop := fnExactEirpTowardRow.holds Try.pinned (OpenSpec.ofChange fnExactEirpTowardWrong)

/-- 'laws.FnExactChannelsOf': WHATEVER THE INPUT: true; the input reads as it did. -/
def fnExactChannelsOfSpec : ChangeSpec := { name := "fnExactChannelsOf", fn := fun _ => fun
  | [d] => { results := [.lit (.bool true)], args := [d] }
  | _ => none }
def fnExactChannelsOfRow : OpenClaim := { program := "ytefefgamiaganaa", sum := "b863ab9f58ac8171de875b16f094a28f098d232ea930b52bfc96e14413bdef41", func := "loop.example/g00925/laws.FnExactChannelsOf", spec := "fnExactChannelsOf", unfollowed := true, recurses := true, apart := false }
def FnExactChannelsOfSaid : Prop := fnExactChannelsOfRow.holds Try.pinned (OpenSpec.ofChange fnExactChannelsOfSpec)

/-- ITS FALSE NEIGHBOUR: 'it returns false'. Refute it at one input. -/
def fnExactChannelsOfWrong : ChangeSpec := { name := "fnExactChannelsOf", fn := fun _ => fun
  | [d] => { results := [.lit (.bool false)], args := [d] }
  | _ => none }
def FnExactChannelsOfWrongFalsely : Prop := fnExactChannelsOfRow.holds Try.pinned (OpenSpec.ofChange fnExactChannelsOfWrong)

/-- 'laws.FnExactSectorsAt': WHATEVER THE INPUT: true; the input reads as it did. -/
def fnExactSectorsAtSpec : ChangeSpec := { name := "fnExactSectorsAt", fn := fun _ => fun
  | [d1, d2] => { results := [.lit (.bool true)], args := [d1, d2] }
  | _ => none }
def fnExactSectorsAtRow : OpenClaim := { program := "ytefefgamiaganaa", sum := "b863ab9f58ac8171de875b16f094a28f098d232ea930b52bfc96e14413bdef41", func := "loop.example/g00925/laws.FnExactSectorsAt", spec := "fnExactSectorsAt", unfollowed := true, recurses := true, apart := false }
def FnExactSectorsAtSaid : Prop := fnExactSectorsAtRow.holds Try.pinned (OpenSpec.ofChange fnExactSectorsAtSpec)

/-- ITS FALSE NEIGHBOUR: 'it returns false'. Refute it at one input. -/
def fnExactSectorsAtWrong : ChangeSpec := { name := "fnExactSectorsAt", fn := fun _ => fun
  | [d1, d2] => { results := [.lit (.bool false)], args := [d1, d2] }
  | _ => none }
def FnExactSectorsAtWrongFalsely : Prop := fnExactSectorsAtRow.holds Try.pinned (OpenSpec.ofChange fnExactSectorsAtWrong)

/- THE SECOND FORM. 'bulk': how many values and letters a reading holds, each counted each time it is reached (what is shared counts as often as it is met; a slice's spare places count too). A statement '..UptoSaid' is the law's where the arguments, and the package variables that the reading takes, are together of bulk at most 1048576: NARROWER than '..Said'. Prove '..Said' where nothing that the law and all that it calls make is longer than what came in: it says more and counts as full. Else prove '..UptoSaid'. A law counts once. -/
mutual
def uptoBulk {H : Type} : DataW H → Nat
  | .lit (.string bytes) => bytes.length + 1
  | .lit _ => 1
  | .nil => 1
  | .ptr d => uptoBulk d + 1
  | .slice elems spare => uptoBulkAll elems + uptoBulkAll spare + 1
  | .agg parts => uptoBulkAll parts + 1
  | .iface _ d => uptoBulk d + 1
  | .map entries => uptoBulkEntries entries + 1
  | .held _ => 1
def uptoBulkAll {H : Type} : List (DataW H) → Nat
  | [] => 0
  | d :: r => uptoBulk d + uptoBulkAll r
def uptoBulkEntries {H : Type} : List (Lit × DataW H) → Nat
  | [] => 0
  | x :: r => uptoBulkEntry x + uptoBulkEntries r
def uptoBulkEntry {H : Type} : Lit × DataW H → Nat
  | (.string bytes, d) => bytes.length + uptoBulk d + 1
  | (_, d) => uptoBulk d + 1
 end
def uptoSmall : (H : Type) → List (DataW H) → Bool := fun _ ds => decide (uptoBulkAll ds ≤ 1048576)
def OpenSpec.upto (s : _root_.Go.ChangeSpec) : _root_.Go.OpenSpec := { _root_.Go.OpenSpec.ofChange s with cond := some uptoSmall }

/-- 'laws.FnExactSiteNamed', WHERE WHAT IT READS IS OF BULK AT MOST 1048576: true; the input reads as it did. -/
def fnExactSiteNamedUptoRow : OpenClaim := { program := "ytefefgamiaganaa", sum := "b863ab9f58ac8171de875b16f094a28f098d232ea930b52bfc96e14413bdef41", func := "loop.example/g00925/laws.FnExactSiteNamed", spec := "fnExactSiteNamed", unfollowed := true, recurses := true, apart := false, narrowed := true }
def FnExactSiteNamedUptoSaid : Prop := fnExactSiteNamedUptoRow.holds Try.pinned (OpenSpec.upto fnExactSiteNamedSpec)

/-- 'laws.FnExactSectorNamed', WHERE WHAT IT READS IS OF BULK AT MOST 1048576: true; the input reads as it did. -/
def fnExactSectorNamedUptoRow : OpenClaim := { program := "ytefefgamiaganaa", sum := "b863ab9f58ac8171de875b16f094a28f098d232ea930b52bfc96e14413bdef41", func := "loop.example/g00925/laws.FnExactSectorNamed", spec := "fnExactSectorNamed", unfollowed := true, recurses := true, apart := false, narrowed := true }
def FnExactSectorNamedUptoSaid : Prop := fnExactSectorNamedUptoRow.holds Try.pinned (OpenSpec.upto fnExactSectorNamedSpec)

/-- 'laws.FnExactEndOf', WHERE WHAT IT READS IS OF BULK AT MOST 1048576: true; the input reads as it did. -/
def fnExactEndOfUptoRow : OpenClaim := { program := "ytefefgamiaganaa", sum := "b863ab9f58ac8171de875b16f094a28f098d232ea930b52bfc96e14413bdef41", func := "loop.example/g00925/laws.FnExactEndOf", spec := "fnExactEndOf", unfollowed := true, recurses := true, apart := false, narrowed := true }
def FnExactEndOfUptoSaid : Prop := fnExactEndOfUptoRow.holds Try.pinned (OpenSpec.upto fnExactEndOfSpec)

/-- 'laws.FnExactEirpToward', WHERE WHAT IT READS IS OF BULK AT MOST 1048576: true; the input reads as it did. -/
def fnExactEirpTowardUptoRow : OpenClaim := { program := "ytefefgamiaganaa", sum := "b863ab9f58ac8171de875b16f094a28f098d232ea930b52bfc96e14413bdef41", func := "loop.example/g00925/laws.FnExactEirpToward", spec := "fnExactEirpToward", unfollowed := true, recurses := true, apart := false, narrowed := true }
def FnExactEirpTowardUptoSaid : Prop := fnExactEirpTowardUptoRow.holds Try.pinned (OpenSpec.upto fnExactEirpTowardSpec)

/-- 'laws.FnExactChannelsOf', WHERE WHAT IT READS IS OF BULK AT MOST 1048576: true; the input reads as it did. -/
def fnExactChannelsOfUptoRow : OpenClaim := { program := "ytefefgamiaganaa", sum := "b863ab9f58ac8171de875b16f094a28f098d232ea930b52bfc96e14413bdef41", func := "loop.example/g00925/laws.FnExactChannelsOf", spec := "fnExactChannelsOf", unfollowed := true, recurses := true, apart := false, narrowed := true }
def FnExactChannelsOfUptoSaid : Prop := fnExactChannelsOfUptoRow.holds Try.pinned (OpenSpec.upto fnExactChannelsOfSpec)

/-- 'laws.FnExactSectorsAt', WHERE WHAT IT READS IS OF BULK AT MOST 1048576: true; the input reads as it did. -/
def fnExactSectorsAtUptoRow : OpenClaim := { program := "ytefefgamiaganaa", sum := "b863ab9f58ac8171de875b16f094a28f098d232ea930b52bfc96e14413bdef41", func := "loop.example/g00925/laws.FnExactSectorsAt", spec := "fnExactSectorsAt", unfollowed := true, recurses := true, apart := false, narrowed := true }
def FnExactSectorsAtUptoSaid : Prop := fnExactSectorsAtUptoRow.holds Try.pinned (OpenSpec.upto fnExactSectorsAtSpec)

end Rows
end Go.Proofs.Ytefefgamiaganaa
