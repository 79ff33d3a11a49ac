/-
  No cell of these rows narrows 'for every input' (looked for: loops, veiled, ifaces, maps, wideKeys, modest, calm, conditions, laid).
  DERIVED. THE GIVEN ROWS OF THIS SEAT. 4 by the template 'for every input the law returns true; each argument reads behind the call as it read before'; 0 by the template 'total and deterministic' (their statements: YtgphjofccckloaaGreatTotals.lean).
  GIVEN WITH THE SEED: the statements are not yours to turn. If you find one false, say at which input.
  Laid BY PROGRAM, IN A SANDBOX (cutbox-rows.mjs): the forced cells as the released guide's own fill.sh prints them over the translation 9efed746132b0322… (all of the seat's roots in one cut). By AI agents, Wed Nov 11 2026. No macro, syntax, notation, axiom, sorry.
-/
import Derived.Test.YtgphjofccckloaaGreatChecked
import GoSem.Claim
import GoSem.ClaimJoined
import GoSem.ClaimMapViews
import Derived.JoinedTies
import Derived.KernelRfl
namespace Go.Proofs.YtgphjofccckloaaGreat
/- THE CELL 'sum', in the pinned program and in every row, IS THE sha256 OF THE DUMP (.gsa) THAT YtgphjofccckloaaGreatProg.lean LOADS. Nothing in Lean hashes anything: it is a label: what it is worth is what the hold of that sum in a sandbox is worth. -/
noncomputable def Tryz.pinned : Pinned := { name := "ytgphjofccckloaagreat", sum := "9efed746132b0322b39694ad3397d357812064d0d782f090da0e5d427d4f4888", checked := Tryz.checked }
namespace Rows
def none {H : Type} : Left H := { results := [], args := [] }

/-- 'laws.FnExactCellViolationCounts': WHATEVER THE INPUT: true; the input reads as it did. -/
def fnExactCellViolationCountsSpec : ChangeSpec := { name := "fnExactCellViolationCounts", fn := fun _ => fun
  | [d1, d2] => { results := [.lit (.bool true)], args := [d1, d2] }
  | _ => none }
def fnExactCellViolationCountsRow : OpenClaim := { program := "ytgphjofccckloaagreat", sum := "9efed746132b0322b39694ad3397d357812064d0d782f090da0e5d427d4f4888", func := "loop.example/g00890/laws.FnExactCellViolationCounts", spec := "fnExactCellViolationCounts", unfollowed := true, recurses := true, apart := false }
def FnExactCellViolationCountsSaid : Prop := fnExactCellViolationCountsRow.holds Tryz.pinned (OpenSpec.ofChange fnExactCellViolationCountsSpec)

/-- ITS FALSE NEIGHBOUR: 'it returns false'. Refute it at one input. -/
def fnExactCellViolationCountsWrong : ChangeSpec := { name := "fnExactCellViolationCounts", fn := fun _ => fun
  | [d1, d2] => { results := [.lit (.bool false)], args := [d1, d2] }
  | _ => none }
def FnExactCellViolationCountsWrongFalsely : Prop := fnExactCellViolationCountsRow.holds Tryz.pinned (OpenSpec.ofChange fnExactCellViolationCountsWrong)

/-- 'laws.FnExactHierarchicalMarkers': WHATEVER THE INPUT: true; the input reads as it did. -/
def fnExactHierarchicalMarkersSpec : ChangeSpec := { name := "fnExactHierarchicalMarkers", fn := fun _ => fun
  | [d1, d2, d3] => { results := [.lit (.bool true)], args := [d1, d2, d3] }
  | _ => none }
def fnExactHierarchicalMarkersRow : OpenClaim := { program := "ytgphjofccckloaagreat", sum := "9efed746132b0322b39694ad3397d357812064d0d782f090da0e5d427d4f4888", func := "loop.example/g00890/laws.FnExactHierarchicalMarkers", spec := "fnExactHierarchicalMarkers", unfollowed := true, recurses := true, apart := false }
def FnExactHierarchicalMarkersSaid : Prop := fnExactHierarchicalMarkersRow.holds Tryz.pinned (OpenSpec.ofChange fnExactHierarchicalMarkersSpec)

/-- ITS FALSE NEIGHBOUR: 'it returns false'. Refute it at one input. -/
def fnExactHierarchicalMarkersWrong : ChangeSpec := { name := "fnExactHierarchicalMarkers", fn := fun _ => fun
  | [d1, d2, d3] => { results := [.lit (.bool false)], args := [d1, d2, d3] }
  | _ => none }
def FnExactHierarchicalMarkersWrongFalsely : Prop := fnExactHierarchicalMarkersRow.holds Tryz.pinned (OpenSpec.ofChange fnExactHierarchicalMarkersWrong)

/-- 'laws.FnExactReusedMarkers': WHATEVER THE INPUT: true; the input reads as it did. -/
def fnExactReusedMarkersSpec : ChangeSpec := { name := "fnExactReusedMarkers", fn := fun _ => fun
  | [d1, d2, d3, d4] => { results := [.lit (.bool true)], args := [d1, d2, d3, d4] }
  | _ => none }
def fnExactReusedMarkersRow : OpenClaim := { program := "ytgphjofccckloaagreat", sum := "9efed746132b0322b39694ad3397d357812064d0d782f090da0e5d427d4f4888", func := "loop.example/g00890/laws.FnExactReusedMarkers", spec := "fnExactReusedMarkers", unfollowed := true, recurses := true, apart := false }
def FnExactReusedMarkersSaid : Prop := fnExactReusedMarkersRow.holds Tryz.pinned (OpenSpec.ofChange fnExactReusedMarkersSpec)

/-- ITS FALSE NEIGHBOUR: 'it returns false'. Refute it at one input. -/
def fnExactReusedMarkersWrong : ChangeSpec := { name := "fnExactReusedMarkers", fn := fun _ => fun
  | [d1, d2, d3, d4] => { results := [.lit (.bool false)], args := [d1, d2, d3, d4] }
  | _ => none }
def FnExactReusedMarkersWrongFalsely : Prop := fnExactReusedMarkersRow.holds Tryz.pinned (OpenSpec.ofChange fnExactReusedMarkersWrong)

/-- 'laws.FnExactHierarchicalCheck': WHATEVER THE INPUT: true; the input reads as it did. -/
def fnExactHierarchicalCheckSpec : ChangeSpec := { name := "fnExactHierarchicalCheck", fn := fun _ => fun
  | [d1, d2, d3] => { results := [.lit (.bool true)], args := [d1, d2, d3] }
  | _ => none }
def fnExactHierarchicalCheckRow : OpenClaim := { program := "ytgphjofccckloaagreat", sum := "9efed746132b0322b39694ad3397d357812064d0d782f090da0e5d427d4f4888", func := "loop.example/g00890/laws.FnExactHierarchicalCheck", spec := "fnExactHierarchicalCheck", unfollowed := true, recurses := true, apart := false }
def FnExactHierarchicalCheckSaid : Prop := fnExactHierarchicalCheckRow.holds Tryz.pinned (OpenSpec.ofChange fnExactHierarchicalCheckSpec)

/-- ITS FALSE NEIGHBOUR: 'it returns false'. Refute it at one input. -/
def fnExactHierarchicalCheckWrong : ChangeSpec := { name := "fnExactHierarchicalCheck", fn := fun _ => fun
  | [d1, d2, d3] => { results := [.lit (.bool false)], args := [d1, d2, d3] }
  | _ => none }
def FnExactHierarchicalCheckWrongFalsely : Prop := fnExactHierarchicalCheckRow.holds Tryz.pinned (OpenSpec.ofChange fnExactHierarchicalCheckWrong)

/- THE SECOND FORM. 'bulk': how many values and letters a reading holds, each counted each time it is reached (what is shared counts as often as it is met; a slice's spare places count too). A statement '..UptoSaid' is the law's where the arguments, and the package variables that the reading takes, are together of bulk at most 1048576: NARROWER than '..Said'. Prove '..Said' where nothing that the law and all that it calls make is longer than what came in: it says more and counts as full. Else prove '..UptoSaid'. A law counts once. -/
mutual
def uptoBulk {H : Type} : DataW H → Nat
  | .lit (.string bytes) => bytes.length + 1
  | .lit _ => 1
  | .nil => 1
  | .ptr d => uptoBulk d + 1
  | .slice elems spare => uptoBulkAll elems + uptoBulkAll spare + 1
  | .agg parts => uptoBulkAll parts + 1
  | .iface _ d => uptoBulk d + 1
  | .map entries => uptoBulkEntries entries + 1
  | .held _ => 1
def uptoBulkAll {H : Type} : List (DataW H) → Nat
  | [] => 0
  | d :: r => uptoBulk d + uptoBulkAll r
def uptoBulkEntries {H : Type} : List (Lit × DataW H) → Nat
  | [] => 0
  | x :: r => uptoBulkEntry x + uptoBulkEntries r
def uptoBulkEntry {H : Type} : Lit × DataW H → Nat
  | (.string bytes, d) => bytes.length + uptoBulk d + 1
  | (_, d) => uptoBulk d + 1
 end
def uptoSmall : (H : Type) → List (DataW H) → Bool := fun _ ds => decide (uptoBulkAll ds ≤ 1048576)
def OpenSpec.upto (s : _root_.Go.ChangeSpec) : _root_.Go.OpenSpec := { _root_.Go.OpenSpec.ofChange s with cond := some uptoSmall }

/-- 'laws.FnExactCellViolationCounts', WHERE WHAT IT READS IS OF BULK AT MOST 1048576: true; the input reads as it did. -/
def fnExactCellViolationCountsUptoRow : OpenClaim := { program := "ytgphjofccckloaagreat", sum := "9efed746132b0322b39694ad3397d357812064d0d782f090da0e5d427d4f4888", func := "loop.example/g00890/laws.FnExactCellViolationCounts", spec := "fnExactCellViolationCounts", unfollowed := true, recurses := true, apart := false, narrowed := true }
def FnExactCellViolationCountsUptoSaid : Prop := fnExactCellViolationCountsUptoRow.holds Tryz.pinned (OpenSpec.upto fnExactCellViolationCountsSpec)

/-- 'laws.FnExactHierarchicalMarkers', WHERE WHAT IT READS IS OF BULK AT MOST 1048576: true; the input reads as it did. -/
def fnExactHierarchicalMarkersUptoRow : OpenClaim := { program := "ytgphjofccckloaagreat", sum := "9efed746132b0322b39694ad3397d357812064d0d782f090da0e5d427d4f4888", func := "loop.example/g00890/laws.FnExactHierarchicalMarkers", spec := "fnExactHierarchicalMarkers", unfollowed := true, recurses := true, apart := false, narrowed := true }
def FnExactHierarchicalMarkersUptoSaid : Prop := fnExactHierarchicalMarkersUptoRow.holds Tryz.pinned (OpenSpec.upto fnExactHierarchicalMarkersSpec)

/-- 'laws.FnExactReusedMarkers', WHERE WHAT IT READS IS OF BULK AT MOST 1048576: true; the input reads as it did. -/
def fnExactReusedMarkersUptoRow : OpenClaim := { program := "ytgphjofccckloaagreat", sum := "9efed746132b0322b39694ad3397d357812064d0d782f090da0e5d427d4f4888", func := "loop.example/g00890/laws.FnExactReusedMarkers", spec := "fnExactReusedMarkers", unfollowed := true, recurses := true, apart := false, narrowed := true }
def FnExactReusedMarkersUptoSaid : Prop := fnExactReusedMarkersUptoRow.holds Tryz.pinned (OpenSpec.upto fnExactReusedMarkersSpec)

/-- 'laws.FnExactHierarchicalCheck', WHERE WHAT IT READS IS OF BULK AT MOST 1048576: true; the input reads as it did. -/
def fnExactHierarchicalCheckUptoRow : OpenClaim := { program := "ytgphjofccckloaagreat", sum := "9efed746132b0322b39694ad3397d357812064d0d782f090da0e5d427d4f4888", func := "loop.example/g00890/laws.FnExactHierarchicalCheck", spec := "fnExactHierarchicalCheck", unfollowed := true, recurses := true, apart := false, narrowed := true }
def FnExactHierarchicalCheckUptoSaid : Prop := fnExactHierarchicalCheckUptoRow.holds Tryz.pinned (OpenSpec.upto fnExactHierarchicalCheckSpec)

end Rows
end Go.Proofs.YtgphjofccckloaaGreat
