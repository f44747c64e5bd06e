/-
  No cell of these rows narrows 'for every input' (looked for: loops, veiled, ifaces, maps, wideKeys, modest, calm, conditions, laid).
  DERIVED. THE GIVEN ROWS OF THIS SEAT. 6 by the template 'for every input the law returns true; each argument reads behind the call as it read before'; 0 by the template 'total and deterministic' (their statements: YtppgcgopnchbcaaGreatTotals.lean).
  GIVEN WITH THE SEED: the statements are not yours to turn. If you find one false, say at which input.
  Laid BY PROGRAM, IN A SANDBOX (cutbox-rows.mjs): the forced cells as the released guide's own fill.sh prints them over the translation 9a5d0692df6484ba… (all of the seat's roots in one cut). By AI agents, Wed Nov 11 2026. No macro, syntax, notation, axiom, sorry.
-/
import Derived.Test.YtppgcgopnchbcaaGreatChecked
import GoSem.Claim
import GoSem.ClaimJoined
import GoSem.ClaimMapViews
import Derived.JoinedTies
import Derived.KernelRfl
namespace Go.Proofs.YtppgcgopnchbcaaGreat
/- THE CELL 'sum', in the pinned program and in every row, IS THE sha256 OF THE DUMP (.gsa) THAT YtppgcgopnchbcaaGreatProg.lean LOADS. Nothing in Lean hashes anything: it is a label: what it is worth is what the hold of that sum in a sandbox is worth. -/
noncomputable def Tryz.pinned : Pinned := { name := "ytppgcgopnchbcaagreat", sum := "9a5d0692df6484ba7251deece39d4988434a69f2443159d31b04e68d29c9b110", checked := Tryz.checked }
namespace Rows
def none {H : Type} : Left H := { results := [], args := [] }

/-- 'laws.FnExactSetChannels': WHATEVER THE INPUT: true; the input reads as it did. -/
def fnExactSetChannelsSpec : ChangeSpec := { name := "fnExactSetChannels", fn := fun _ => fun
  | [d1, d2] => { results := [.lit (.bool true)], args := [d1, d2] }
  | _ => none }
def fnExactSetChannelsRow : OpenClaim := { program := "ytppgcgopnchbcaagreat", sum := "9a5d0692df6484ba7251deece39d4988434a69f2443159d31b04e68d29c9b110", func := "loop.example/g00925/laws.FnExactSetChannels", spec := "fnExactSetChannels", unfollowed := true, recurses := true, apart := false }
def FnExactSetChannelsSaid : Prop := fnExactSetChannelsRow.holds Tryz.pinned (OpenSpec.ofChange fnExactSetChannelsSpec)

/-- ITS FALSE NEIGHBOUR: 'it returns false'. Refute it at one input. -/
def fnExactSetChannelsWrong : ChangeSpec := { name := "fnExactSetChannels", fn := fun _ => fun
  | [d1, d2] => { results := [.lit (.bool false)], args := [d1, d2] }
  | _ => none }
def FnExactSetChannelsWrongFalsely : Prop := fnExactSetChannelsRow.holds Tryz.pinned (OpenSpec.ofChange fnExactSetChannelsWrong)

/-- 'laws.FnExactChangeSector': WHATEVER THE INPUT: true; the input reads as it did. -/
def fnExactChangeSectorSpec : ChangeSpec := { name := "fnExactChangeSector", fn := fun _ => fun
  | [d1, d2] => { results := [.lit (.bool true)], args := [d1, d2] }
  | _ => none }
def fnExactChangeSectorRow : OpenClaim := { program := "ytppgcgopnchbcaagreat", sum := "9a5d0692df6484ba7251deece39d4988434a69f2443159d31b04e68d29c9b110", func := "loop.example/g00925/laws.FnExactChangeSector", spec := "fnExactChangeSector", unfollowed := true, recurses := true, apart := false }
def FnExactChangeSectorSaid : Prop := fnExactChangeSectorRow.holds Tryz.pinned (OpenSpec.ofChange fnExactChangeSectorSpec)

/-- ITS FALSE NEIGHBOUR: 'it returns false'. Refute it at one input. -/
def fnExactChangeSectorWrong : ChangeSpec := { name := "fnExactChangeSector", fn := fun _ => fun
  | [d1, d2] => { results := [.lit (.bool false)], args := [d1, d2] }
  | _ => none }
def FnExactChangeSectorWrongFalsely : Prop := fnExactChangeSectorRow.holds Tryz.pinned (OpenSpec.ofChange fnExactChangeSectorWrong)

/-- 'laws.FnExactDropSite': WHATEVER THE INPUT: true; the input reads as it did. -/
def fnExactDropSiteSpec : ChangeSpec := { name := "fnExactDropSite", fn := fun _ => fun
  | [d1, d2] => { results := [.lit (.bool true)], args := [d1, d2] }
  | _ => none }
def fnExactDropSiteRow : OpenClaim := { program := "ytppgcgopnchbcaagreat", sum := "9a5d0692df6484ba7251deece39d4988434a69f2443159d31b04e68d29c9b110", func := "loop.example/g00925/laws.FnExactDropSite", spec := "fnExactDropSite", unfollowed := true, recurses := true, apart := false }
def FnExactDropSiteSaid : Prop := fnExactDropSiteRow.holds Tryz.pinned (OpenSpec.ofChange fnExactDropSiteSpec)

/-- ITS FALSE NEIGHBOUR: 'it returns false'. Refute it at one input. -/
def fnExactDropSiteWrong : ChangeSpec := { name := "fnExactDropSite", fn := fun _ => fun
  | [d1, d2] => { results := [.lit (.bool false)], args := [d1, d2] }
  | _ => none }
def FnExactDropSiteWrongFalsely : Prop := fnExactDropSiteRow.holds Tryz.pinned (OpenSpec.ofChange fnExactDropSiteWrong)

/-- 'laws.FnExactDropSector': WHATEVER THE INPUT: true; the input reads as it did. -/
def fnExactDropSectorSpec : ChangeSpec := { name := "fnExactDropSector", fn := fun _ => fun
  | [d1, d2] => { results := [.lit (.bool true)], args := [d1, d2] }
  | _ => none }
def fnExactDropSectorRow : OpenClaim := { program := "ytppgcgopnchbcaagreat", sum := "9a5d0692df6484ba7251deece39d4988434a69f2443159d31b04e68d29c9b110", func := "loop.example/g00925/laws.FnExactDropSector", spec := "fnExactDropSector", unfollowed := true, recurses := true, apart := false }
def FnExactDropSectorSaid : Prop := fnExactDropSectorRow.holds Tryz.pinned (OpenSpec.ofChange fnExactDropSectorSpec)

/-- ITS FALSE NEIGHBOUR: 'it returns false'. Refute it at one input. -/
def fnExactDropSectorWrong : ChangeSpec := { name := "fnExactDropSector", fn := fun _ => fun
  | [d1, d2] => { results := [.lit (.bool false)], args := [d1, d2] }
  | _ => none }
def FnExactDropSectorWrongFalsely : Prop := fnExactDropSectorRow.holds Tryz.pinned (OpenSpec.ofChange fnExactDropSectorWrong)

/-- 'laws.FnExactAddSite': WHATEVER THE INPUT: true; the input reads as it did. -/
def fnExactAddSiteSpec : ChangeSpec := { name := "fnExactAddSite", fn := fun _ => fun
  | [d1, d2] => { results := [.lit (.bool true)], args := [d1, d2] }
  | _ => none }
def fnExactAddSiteRow : OpenClaim := { program := "ytppgcgopnchbcaagreat", sum := "9a5d0692df6484ba7251deece39d4988434a69f2443159d31b04e68d29c9b110", func := "loop.example/g00925/laws.FnExactAddSite", spec := "fnExactAddSite", inPlace := ["internal/bytealg.abigen_runtime_cmpstring", "slices.overlaps[loop.example/g00925/impl.Site]"], unfollowed := true, recurses := true, apart := false }
def FnExactAddSiteSaid : Prop := fnExactAddSiteRow.holds Tryz.pinned (OpenSpec.ofChange fnExactAddSiteSpec)

/-- ITS FALSE NEIGHBOUR: 'it returns false'. Refute it at one input. -/
def fnExactAddSiteWrong : ChangeSpec := { name := "fnExactAddSite", fn := fun _ => fun
  | [d1, d2] => { results := [.lit (.bool false)], args := [d1, d2] }
  | _ => none }
def FnExactAddSiteWrongFalsely : Prop := fnExactAddSiteRow.holds Tryz.pinned (OpenSpec.ofChange fnExactAddSiteWrong)

/-- 'laws.FnExactAddSector': WHATEVER THE INPUT: true; the input reads as it did. -/
def fnExactAddSectorSpec : ChangeSpec := { name := "fnExactAddSector", fn := fun _ => fun
  | [d1, d2] => { results := [.lit (.bool true)], args := [d1, d2] }
  | _ => none }
def fnExactAddSectorRow : OpenClaim := { program := "ytppgcgopnchbcaagreat", sum := "9a5d0692df6484ba7251deece39d4988434a69f2443159d31b04e68d29c9b110", func := "loop.example/g00925/laws.FnExactAddSector", spec := "fnExactAddSector", inPlace := ["internal/bytealg.abigen_runtime_cmpstring", "slices.overlaps[loop.example/g00925/impl.Sector]"], unfollowed := true, recurses := true, apart := false }
def FnExactAddSectorSaid : Prop := fnExactAddSectorRow.holds Tryz.pinned (OpenSpec.ofChange fnExactAddSectorSpec)

/-- ITS FALSE NEIGHBOUR: 'it returns false'. Refute it at one input. -/
def fnExactAddSectorWrong : ChangeSpec := { name := "fnExactAddSector", fn := fun _ => fun
  | [d1, d2] => { results := [.lit (.bool false)], args := [d1, d2] }
  | _ => none }
def FnExactAddSectorWrongFalsely : Prop := fnExactAddSectorRow.holds Tryz.pinned (OpenSpec.ofChange fnExactAddSectorWrong)

/- THE SECOND FORM. 'bulk': how many values and letters a reading holds, each counted each time it is reached (what is shared counts as often as it is met; a slice's spare places count too). A statement '..UptoSaid' is the law's where the arguments, and the package variables that the reading takes, are together of bulk at most 1048576: NARROWER than '..Said'. Prove '..Said' where nothing that the law and all that it calls make is longer than what came in: it says more and counts as full. Else prove '..UptoSaid'. A law counts once. -/
mutual
def uptoBulk {H : Type} : DataW H → Nat
  | .lit (.string bytes) => bytes.length + 1
  | .lit _ => 1
  | .nil => 1
  | .ptr d => uptoBulk d + 1
  | .slice elems spare => uptoBulkAll elems + uptoBulkAll spare + 1
  | .agg parts => uptoBulkAll parts + 1
  | .iface _ d => uptoBulk d + 1
  | .map entries => uptoBulkEntries entries + 1
  | .held _ => 1
def uptoBulkAll {H : Type} : List (DataW H) → Nat
  | [] => 0
  | d :: r => uptoBulk d + uptoBulkAll r
def uptoBulkEntries {H : Type} : List (Lit × DataW H) → Nat
  | [] => 0
  | x :: r => uptoBulkEntry x + uptoBulkEntries r
def uptoBulkEntry {H : Type} : Lit × DataW H → Nat
  | (.string bytes, d) => bytes.length + uptoBulk d + 1
  | (_, d) => uptoBulk d + 1
 end
def uptoSmall : (H : Type) → List (DataW H) → Bool := fun _ ds => decide (uptoBulkAll ds ≤ 1048576)
def OpenSpec.upto (s : _root_.Go.ChangeSpec) : _root_.Go.OpenSpec := { _root_.Go.OpenSpec.ofChange s with cond := some uptoSmall }

/-- 'laws.FnExactSetChannels', WHERE WHAT IT READS IS OF BULK AT MOST 1048576: true; the input reads as it did. -/
def fnExactSetChannelsUptoRow : OpenClaim := { program := "ytppgcgopnchbcaagreat", sum := "9a5d0692df6484ba7251deece39d4988434a69f2443159d31b04e68d29c9b110", func := "loop.example/g00925/laws.FnExactSetChannels", spec := "fnExactSetChannels", unfollowed := true, recurses := true, apart := false, narrowed := true }
def FnExactSetChannelsUptoSaid : Prop := fnExactSetChannelsUptoRow.holds Tryz.pinned (OpenSpec.upto fnExactSetChannelsSpec)

/-- 'laws.FnExactChangeSector', WHERE WHAT IT READS IS OF BULK AT MOST 1048576: true; the input reads as it did. -/
def fnExactChangeSectorUptoRow : OpenClaim := { program := "ytppgcgopnchbcaagreat", sum := "9a5d0692df6484ba7251deece39d4988434a69f2443159d31b04e68d29c9b110", func := "loop.example/g00925/laws.FnExactChangeSector", spec := "fnExactChangeSector", unfollowed := true, recurses := true, apart := false, narrowed := true }
def FnExactChangeSectorUptoSaid : Prop := fnExactChangeSectorUptoRow.holds Tryz.pinned (OpenSpec.upto fnExactChangeSectorSpec)

/-- 'laws.FnExactDropSite', WHERE WHAT IT READS IS OF BULK AT MOST 1048576: true; the input reads as it did. -/
def fnExactDropSiteUptoRow : OpenClaim := { program := "ytppgcgopnchbcaagreat", sum := "9a5d0692df6484ba7251deece39d4988434a69f2443159d31b04e68d29c9b110", func := "loop.example/g00925/laws.FnExactDropSite", spec := "fnExactDropSite", unfollowed := true, recurses := true, apart := false, narrowed := true }
def FnExactDropSiteUptoSaid : Prop := fnExactDropSiteUptoRow.holds Tryz.pinned (OpenSpec.upto fnExactDropSiteSpec)

/-- 'laws.FnExactDropSector', WHERE WHAT IT READS IS OF BULK AT MOST 1048576: true; the input reads as it did. -/
def fnExactDropSectorUptoRow : OpenClaim := { program := "ytppgcgopnchbcaagreat", sum := "9a5d0692df6484ba7251deece39d4988434a69f2443159d31b04e68d29c9b110", func := "loop.example/g00925/laws.FnExactDropSector", spec := "fnExactDropSector", unfollowed := true, recurses := true, apart := false, narrowed := true }
def FnExactDropSectorUptoSaid : Prop := fnExactDropSectorUptoRow.holds Tryz.pinned (OpenSpec.upto fnExactDropSectorSpec)

/-- 'laws.FnExactAddSite', WHERE WHAT IT READS IS OF BULK AT MOST 1048576: true; the input reads as it did. -/
def fnExactAddSiteUptoRow : OpenClaim := { program := "ytppgcgopnchbcaagreat", sum := "9a5d0692df6484ba7251deece39d4988434a69f2443159d31b04e68d29c9b110", func := "loop.example/g00925/laws.FnExactAddSite", spec := "fnExactAddSite", inPlace := ["internal/bytealg.abigen_runtime_cmpstring", "slices.overlaps[loop.example/g00925/impl.Site]"], unfollowed := true, recurses := true, apart := false, narrowed := true }
def FnExactAddSiteUptoSaid : Prop := fnExactAddSiteUptoRow.holds Tryz.pinned (OpenSpec.upto fnExactAddSiteSpec)

/-- 'laws.FnExactAddSector', WHERE WHAT IT READS IS OF BULK AT MOST 1048576: true; the input reads as it did. -/
def fnExactAddSectorUptoRow : OpenClaim := { program := "ytppgcgopnchbcaagreat", sum := "9a5d0692df6484ba7251deece39d4988434a69f2443159d31b04e68d29c9b110", func := "loop.example/g00925/laws.FnExactAddSector", spec := "fnExactAddSector", inPlace := ["internal/bytealg.abigen_runtime_cmpstring", "slices.overlaps[loop.example/g00925/impl.Sector]"], unfollowed := true, recurses := true, apart := false, narrowed := true }
def FnExactAddSectorUptoSaid : Prop := fnExactAddSectorUptoRow.holds Tryz.pinned (OpenSpec.upto fnExactAddSectorSpec)

end Rows
end Go.Proofs.YtppgcgopnchbcaaGreat
