/-
  No cell of these rows narrows 'for every input' (looked for: loops, veiled, ifaces, maps, wideKeys, modest, calm, conditions, laid).
  DERIVED. THE GIVEN ROWS OF THIS SEAT. 6 by the template 'for every input the law returns true; each argument reads behind the call as it read before'; 0 by the template 'total and deterministic' (their statements: YtblccfeodidhbaaTotals.lean).
  GIVEN WITH THE SEED: the statements are not yours to turn. If you find one false, say at which input.
  Laid BY PROGRAM, IN A SANDBOX (cutbox-rows.mjs): the forced cells as the released guide's own fill.sh prints them over the translation 4f71245046298dc1… (all of the seat's roots in one cut). By AI agents, Wed Nov 11 2026. No macro, syntax, notation, axiom, sorry.
-/
import Derived.Test.YtblccfeodidhbaaChecked
import GoSem.Claim
import GoSem.ClaimJoined
import GoSem.ClaimMapViews
import Derived.JoinedTies
import Derived.KernelRfl
namespace Go.Proofs.Ytblccfeodidhbaa
/- THE CELL 'sum', in the pinned program and in every row, IS THE sha256 OF THE DUMP (.gsa) THAT YtblccfeodidhbaaProg.lean LOADS. Nothing in Lean hashes anything: it is a label: what it is worth is what the hold of that sum in a sandbox is worth. -/
noncomputable def Try.pinned : Pinned := { name := "ytblccfeodidhbaa", sum := "4f71245046298dc1411324796da5b6ad532031937d7870bddb9bec600ffd41f9", checked := Try.checked }
namespace Rows
def none {H : Type} : Left H := { results := [], args := [] }

/-- 'laws.FnExactIsWaiverList': WHATEVER THE INPUT: true; the input reads as it did. -/
def fnExactIsWaiverListSpec : ChangeSpec := { name := "fnExactIsWaiverList", fn := fun _ => fun
  | [d] => { results := [.lit (.bool true)], args := [d] }
  | _ => none }
def fnExactIsWaiverListRow : OpenClaim := { program := "ytblccfeodidhbaa", sum := "4f71245046298dc1411324796da5b6ad532031937d7870bddb9bec600ffd41f9", func := "loop.example/g00890/laws.FnExactIsWaiverList", spec := "fnExactIsWaiverList", apart := false }
def FnExactIsWaiverListSaid : Prop := fnExactIsWaiverListRow.holds Try.pinned (OpenSpec.ofChange fnExactIsWaiverListSpec)

/-- ITS FALSE NEIGHBOUR: 'it returns false'. Refute it at one input. -/
def fnExactIsWaiverListWrong : ChangeSpec := { name := "fnExactIsWaiverList", fn := fun _ => fun
  | [d] => { results := [.lit (.bool false)], args := [d] }
  | _ => none }
def FnExactIsWaiverListWrongFalsely : Prop := fnExactIsWaiverListRow.holds Try.pinned (OpenSpec.ofChange fnExactIsWaiverListWrong)

/-- 'laws.FnExactAddWaiver': WHATEVER THE INPUT: true; the input reads as it did. -/
def fnExactAddWaiverSpec : ChangeSpec := { name := "fnExactAddWaiver", fn := fun _ => fun
  | [d1, d2] => { results := [.lit (.bool true)], args := [d1, d2] }
  | _ => none }
def fnExactAddWaiverRow : OpenClaim := { program := "ytblccfeodidhbaa", sum := "4f71245046298dc1411324796da5b6ad532031937d7870bddb9bec600ffd41f9", func := "loop.example/g00890/laws.FnExactAddWaiver", spec := "fnExactAddWaiver", inPlace := ["slices.overlaps[loop.example/g00890/impl.Waiver]"], unfollowed := true, recurses := true, apart := false }
def FnExactAddWaiverSaid : Prop := fnExactAddWaiverRow.holds Try.pinned (OpenSpec.ofChange fnExactAddWaiverSpec)

/-- ITS FALSE NEIGHBOUR: 'it returns false'. Refute it at one input. -/
def fnExactAddWaiverWrong : ChangeSpec := { name := "fnExactAddWaiver", fn := fun _ => fun
  | [d1, d2] => { results := [.lit (.bool false)], args := [d1, d2] }
  | _ => none }
def FnExactAddWaiverWrongFalsely : Prop := fnExactAddWaiverRow.holds Try.pinned (OpenSpec.ofChange fnExactAddWaiverWrong)

/-- 'laws.FnExactNetCells': WHATEVER THE INPUT: true; the input reads as it did. -/
def fnExactNetCellsSpec : ChangeSpec := { name := "fnExactNetCells", fn := fun _ => fun
  | [d] => { results := [.lit (.bool true)], args := [d] }
  | _ => none }
def fnExactNetCellsRow : OpenClaim := { program := "ytblccfeodidhbaa", sum := "4f71245046298dc1411324796da5b6ad532031937d7870bddb9bec600ffd41f9", func := "loop.example/g00890/laws.FnExactNetCells", spec := "fnExactNetCells", apart := false }
def FnExactNetCellsSaid : Prop := fnExactNetCellsRow.holds Try.pinned (OpenSpec.ofChange fnExactNetCellsSpec)

/-- ITS FALSE NEIGHBOUR: 'it returns false'. Refute it at one input. -/
def fnExactNetCellsWrong : ChangeSpec := { name := "fnExactNetCells", fn := fun _ => fun
  | [d] => { results := [.lit (.bool false)], args := [d] }
  | _ => none }
def FnExactNetCellsWrongFalsely : Prop := fnExactNetCellsRow.holds Try.pinned (OpenSpec.ofChange fnExactNetCellsWrong)

/-- 'laws.FnExactRegionSignature': WHATEVER THE INPUT: true; the input reads as it did. -/
def fnExactRegionSignatureSpec : ChangeSpec := { name := "fnExactRegionSignature", fn := fun _ => fun
  | [d] => { results := [.lit (.bool true)], args := [d] }
  | _ => none }
def fnExactRegionSignatureRow : OpenClaim := { program := "ytblccfeodidhbaa", sum := "4f71245046298dc1411324796da5b6ad532031937d7870bddb9bec600ffd41f9", func := "loop.example/g00890/laws.FnExactRegionSignature", spec := "fnExactRegionSignature", apart := false }
def FnExactRegionSignatureSaid : Prop := fnExactRegionSignatureRow.holds Try.pinned (OpenSpec.ofChange fnExactRegionSignatureSpec)

/-- ITS FALSE NEIGHBOUR: 'it returns false'. Refute it at one input. -/
def fnExactRegionSignatureWrong : ChangeSpec := { name := "fnExactRegionSignature", fn := fun _ => fun
  | [d] => { results := [.lit (.bool false)], args := [d] }
  | _ => none }
def FnExactRegionSignatureWrongFalsely : Prop := fnExactRegionSignatureRow.holds Try.pinned (OpenSpec.ofChange fnExactRegionSignatureWrong)

/-- 'laws.FnExactChannelRegion': WHATEVER THE INPUT: true; the input reads as it did. -/
def fnExactChannelRegionSpec : ChangeSpec := { name := "fnExactChannelRegion", fn := fun _ => fun
  | [d] => { results := [.lit (.bool true)], args := [d] }
  | _ => none }
def fnExactChannelRegionRow : OpenClaim := { program := "ytblccfeodidhbaa", sum := "4f71245046298dc1411324796da5b6ad532031937d7870bddb9bec600ffd41f9", func := "loop.example/g00890/laws.FnExactChannelRegion", spec := "fnExactChannelRegion", unfollowed := true, recurses := true, apart := false }
def FnExactChannelRegionSaid : Prop := fnExactChannelRegionRow.holds Try.pinned (OpenSpec.ofChange fnExactChannelRegionSpec)

/-- ITS FALSE NEIGHBOUR: 'it returns false'. Refute it at one input. -/
def fnExactChannelRegionWrong : ChangeSpec := { name := "fnExactChannelRegion", fn := fun _ => fun
  | [d] => { results := [.lit (.bool false)], args := [d] }
  | _ => none }
def FnExactChannelRegionWrongFalsely : Prop := fnExactChannelRegionRow.holds Try.pinned (OpenSpec.ofChange fnExactChannelRegionWrong)

/-- 'laws.FnExactConductors': WHATEVER THE INPUT: true; the input reads as it did. -/
def fnExactConductorsSpec : ChangeSpec := { name := "fnExactConductors", fn := fun _ => fun
  | [d] => { results := [.lit (.bool true)], args := [d] }
  | _ => none }
def fnExactConductorsRow : OpenClaim := { program := "ytblccfeodidhbaa", sum := "4f71245046298dc1411324796da5b6ad532031937d7870bddb9bec600ffd41f9", func := "loop.example/g00890/laws.FnExactConductors", spec := "fnExactConductors", unfollowed := true, recurses := true, apart := false }
def FnExactConductorsSaid : Prop := fnExactConductorsRow.holds Try.pinned (OpenSpec.ofChange fnExactConductorsSpec)

/-- ITS FALSE NEIGHBOUR: 'it returns false'. Refute it at one input. -/
def fnExactConductorsWrong : ChangeSpec := { name := "fnExactConductors", fn := fun _ => fun
  | [d] => { results := [.lit (.bool false)], args := [d] }
  | _ => none }
def FnExactConductorsWrongFalsely : Prop := fnExactConductorsRow.holds Try.pinned (OpenSpec.ofChange fnExactConductorsWrong)

/- THE SECOND FORM. 'bulk': how many values and letters a reading holds, each counted each time it is reached (what is shared counts as often as it is met; a slice's spare places count too). A statement '..UptoSaid' is the law's where the arguments, and the package variables that the reading takes, are together of bulk at most 1048576: NARROWER than '..Said'. Prove '..Said' where nothing that the law and all that it calls make is longer than what came in: it says more and counts as full. Else prove '..UptoSaid'. A law counts once. -/
mutual
def uptoBulk {H : Type} : DataW H → Nat
  | .lit (.string bytes) => bytes.length + 1
  | .lit _ => 1
  | .nil => 1
  | .ptr d => uptoBulk d + 1
  | .slice elems spare => uptoBulkAll elems + uptoBulkAll spare + 1
  | .agg parts => uptoBulkAll parts + 1
  | .iface _ d => uptoBulk d + 1
  | .map entries => uptoBulkEntries entries + 1
  | .held _ => 1
def uptoBulkAll {H : Type} : List (DataW H) → Nat
  | [] => 0
  | d :: r => uptoBulk d + uptoBulkAll r
def uptoBulkEntries {H : Type} : List (Lit × DataW H) → Nat
  | [] => 0
  | x :: r => uptoBulkEntry x + uptoBulkEntries r
def uptoBulkEntry {H : Type} : Lit × DataW H → Nat
  | (.string bytes, d) => bytes.length + uptoBulk d + 1
  | (_, d) => uptoBulk d + 1
 end
def uptoSmall : (H : Type) → List (DataW H) → Bool := fun _ ds => decide (uptoBulkAll ds ≤ 1048576)
def OpenSpec.upto (s : _root_.Go.ChangeSpec) : _root_.Go.OpenSpec := { _root_.Go.OpenSpec.ofChange s with cond := some uptoSmall }

/-- 'laws.FnExactIsWaiverList', WHERE WHAT IT READS IS OF BULK AT MOST 1048576: true; the input reads as it did. -/
def fnExactIsWaiverListUptoRow : OpenClaim := { program := "ytblccfeodidhbaa", sum := "4f71245046298dc1411324796da5b6ad532031937d7870bddb9bec600ffd41f9", func := "loop.example/g00890/laws.FnExactIsWaiverList", spec := "fnExactIsWaiverList", apart := false, narrowed := true }
def FnExactIsWaiverListUptoSaid : Prop := fnExactIsWaiverListUptoRow.holds Try.pinned (OpenSpec.upto fnExactIsWaiverListSpec)

/-- 'laws.FnExactAddWaiver', WHERE WHAT IT READS IS OF BULK AT MOST 1048576: true; the input reads as it did. -/
def fnExactAddWaiverUptoRow : OpenClaim := { program := "ytblccfeodidhbaa", sum := "4f71245046298dc1411324796da5b6ad532031937d7870bddb9bec600ffd41f9", func := "loop.example/g00890/laws.FnExactAddWaiver", spec := "fnExactAddWaiver", inPlace := ["slices.overlaps[loop.example/g00890/impl.Waiver]"], unfollowed := true, recurses := true, apart := false, narrowed := true }
def FnExactAddWaiverUptoSaid : Prop := fnExactAddWaiverUptoRow.holds Try.pinned (OpenSpec.upto fnExactAddWaiverSpec)

/-- 'laws.FnExactNetCells', WHERE WHAT IT READS IS OF BULK AT MOST 1048576: true; the input reads as it did. -/
def fnExactNetCellsUptoRow : OpenClaim := { program := "ytblccfeodidhbaa", sum := "4f71245046298dc1411324796da5b6ad532031937d7870bddb9bec600ffd41f9", func := "loop.example/g00890/laws.FnExactNetCells", spec := "fnExactNetCells", apart := false, narrowed := true }
def FnExactNetCellsUptoSaid : Prop := fnExactNetCellsUptoRow.holds Try.pinned (OpenSpec.upto fnExactNetCellsSpec)

/-- 'laws.FnExactRegionSignature', WHERE WHAT IT READS IS OF BULK AT MOST 1048576: true; the input reads as it did. -/
def fnExactRegionSignatureUptoRow : OpenClaim := { program := "ytblccfeodidhbaa", sum := "4f71245046298dc1411324796da5b6ad532031937d7870bddb9bec600ffd41f9", func := "loop.example/g00890/laws.FnExactRegionSignature", spec := "fnExactRegionSignature", apart := false, narrowed := true }
def FnExactRegionSignatureUptoSaid : Prop := fnExactRegionSignatureUptoRow.holds Try.pinned (OpenSpec.upto fnExactRegionSignatureSpec)

/-- 'laws.FnExactChannelRegion', WHERE WHAT IT READS IS OF BULK AT MOST 1048576: true; the input reads as it did. -/
def fnExactChannelRegionUptoRow : OpenClaim := { program := "ytblccfeodidhbaa", sum := "4f71245046298dc1411324796da5b6ad532031937d7870bddb9bec600ffd41f9", func := "loop.example/g00890/laws.FnExactChannelRegion", spec := "fnExactChannelRegion", unfollowed := true, recurses := true, apart := false, narrowed := true }
def FnExactChannelRegionUptoSaid : Prop := fnExactChannelRegionUptoRow.holds Try.pinned (OpenSpec.upto fnExactChannelRegionSpec)

/-- 'laws.FnExactConductors', WHERE WHAT IT READS IS OF BULK AT MOST 1048576: true; the input reads as it did. -/
def fnExactConductorsUptoRow : OpenClaim := { program := "ytblccfeodidhbaa", sum := "4f71245046298dc1411324796da5b6ad532031937d7870bddb9bec600ffd41f9", func := "loop.example/g00890/laws.FnExactConductors", spec := "fnExactConductors", unfollowed := true, recurses := true, apart := false, narrowed := true }
def FnExactConductorsUptoSaid : Prop := fnExactConductorsUptoRow.holds Try.pinned (OpenSpec.upto fnExactConductorsSpec)

end Rows
end Go.Proofs.Ytblccfeodidhbaa
