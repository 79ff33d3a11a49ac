/-
  No cell of these rows narrows 'for every input' (looked for: loops, veiled, ifaces, maps, wideKeys, modest, calm, conditions, laid).
  DERIVED. THE GIVEN ROWS OF THIS SEAT. 7 by the template 'for every input the law returns true; each argument reads behind the call as it read before'; 0 by the template 'total and deterministic' (their statements: YtgngpegmaceaiaaGreatTotals.lean).
  GIVEN WITH THE SEED: the statements are not yours to turn. If you find one false, say at which input.
  Laid BY PROGRAM, IN A SANDBOX (cutbox-rows.mjs): the forced cells as the released guide's own fill.sh prints them over the translation 7e618503ef74c037… (all of the seat's roots in one cut). By AI agents, Wed Nov 11 2026. No macro, syntax, notation, axiom, sorry.
-/
import Derived.Test.YtgngpegmaceaiaaGreatChecked
import GoSem.Claim
import GoSem.ClaimJoined
import GoSem.ClaimMapViews
import Derived.JoinedTies
import Derived.KernelRfl
namespace Go.Proofs.YtgngpegmaceaiaaGreat
/- THE CELL 'sum', in the pinned program and in every row, IS THE sha256 OF THE DUMP (.gsa) THAT YtgngpegmaceaiaaGreatProg.lean LOADS. Nothing in Lean hashes anything: it is a label: what it is worth is what the hold of that sum in a sandbox is worth. -/
noncomputable def Tryz.pinned : Pinned := { name := "ytgngpegmaceaiaagreat", sum := "7e618503ef74c037c1954bf29fc5fe944726e770352abe74d80c1974454d6364", checked := Tryz.checked }
namespace Rows
def none {H : Type} : Left H := { results := [], args := [] }

/-- 'laws.FnExactViolationSignature': WHATEVER THE INPUT: true; the input reads as it did. -/
def fnExactViolationSignatureSpec : ChangeSpec := { name := "fnExactViolationSignature", fn := fun _ => fun
  | [d1, d2] => { results := [.lit (.bool true)], args := [d1, d2] }
  | _ => none }
def fnExactViolationSignatureRow : OpenClaim := { program := "ytgngpegmaceaiaagreat", sum := "7e618503ef74c037c1954bf29fc5fe944726e770352abe74d80c1974454d6364", func := "loop.example/g00890/laws.FnExactViolationSignature", spec := "fnExactViolationSignature", unfollowed := true, recurses := true, apart := false }
def FnExactViolationSignatureSaid : Prop := fnExactViolationSignatureRow.holds Tryz.pinned (OpenSpec.ofChange fnExactViolationSignatureSpec)

/-- ITS FALSE NEIGHBOUR: 'it returns false'. Refute it at one input. -/
def fnExactViolationSignatureWrong : ChangeSpec := { name := "fnExactViolationSignature", fn := fun _ => fun
  | [d1, d2] => { results := [.lit (.bool false)], args := [d1, d2] }
  | _ => none }
def FnExactViolationSignatureWrongFalsely : Prop := fnExactViolationSignatureRow.holds Tryz.pinned (OpenSpec.ofChange fnExactViolationSignatureWrong)

/-- 'laws.FnExactRecheckMarkers': WHATEVER THE INPUT: true; the input reads as it did. -/
def fnExactRecheckMarkersSpec : ChangeSpec := { name := "fnExactRecheckMarkers", fn := fun _ => fun
  | [d1, d2, d3, d4] => { results := [.lit (.bool true)], args := [d1, d2, d3, d4] }
  | _ => none }
def fnExactRecheckMarkersRow : OpenClaim := { program := "ytgngpegmaceaiaagreat", sum := "7e618503ef74c037c1954bf29fc5fe944726e770352abe74d80c1974454d6364", func := "loop.example/g00890/laws.FnExactRecheckMarkers", spec := "fnExactRecheckMarkers", unfollowed := true, recurses := true, apart := false }
def FnExactRecheckMarkersSaid : Prop := fnExactRecheckMarkersRow.holds Tryz.pinned (OpenSpec.ofChange fnExactRecheckMarkersSpec)

/-- ITS FALSE NEIGHBOUR: 'it returns false'. Refute it at one input. -/
def fnExactRecheckMarkersWrong : ChangeSpec := { name := "fnExactRecheckMarkers", fn := fun _ => fun
  | [d1, d2, d3, d4] => { results := [.lit (.bool false)], args := [d1, d2, d3, d4] }
  | _ => none }
def FnExactRecheckMarkersWrongFalsely : Prop := fnExactRecheckMarkersRow.holds Tryz.pinned (OpenSpec.ofChange fnExactRecheckMarkersWrong)

/-- 'laws.FnExactUnusedWaivers': WHATEVER THE INPUT: true; the input reads as it did. -/
def fnExactUnusedWaiversSpec : ChangeSpec := { name := "fnExactUnusedWaivers", fn := fun _ => fun
  | [d1, d2, d3] => { results := [.lit (.bool true)], args := [d1, d2, d3] }
  | _ => none }
def fnExactUnusedWaiversRow : OpenClaim := { program := "ytgngpegmaceaiaagreat", sum := "7e618503ef74c037c1954bf29fc5fe944726e770352abe74d80c1974454d6364", func := "loop.example/g00890/laws.FnExactUnusedWaivers", spec := "fnExactUnusedWaivers", unfollowed := true, recurses := true, apart := false }
def FnExactUnusedWaiversSaid : Prop := fnExactUnusedWaiversRow.holds Tryz.pinned (OpenSpec.ofChange fnExactUnusedWaiversSpec)

/-- ITS FALSE NEIGHBOUR: 'it returns false'. Refute it at one input. -/
def fnExactUnusedWaiversWrong : ChangeSpec := { name := "fnExactUnusedWaivers", fn := fun _ => fun
  | [d1, d2, d3] => { results := [.lit (.bool false)], args := [d1, d2, d3] }
  | _ => none }
def FnExactUnusedWaiversWrongFalsely : Prop := fnExactUnusedWaiversRow.holds Tryz.pinned (OpenSpec.ofChange fnExactUnusedWaiversWrong)

/-- 'laws.FnExactApplyWaivers': WHATEVER THE INPUT: true; the input reads as it did. -/
def fnExactApplyWaiversSpec : ChangeSpec := { name := "fnExactApplyWaivers", fn := fun _ => fun
  | [d1, d2, d3] => { results := [.lit (.bool true)], args := [d1, d2, d3] }
  | _ => none }
def fnExactApplyWaiversRow : OpenClaim := { program := "ytgngpegmaceaiaagreat", sum := "7e618503ef74c037c1954bf29fc5fe944726e770352abe74d80c1974454d6364", func := "loop.example/g00890/laws.FnExactApplyWaivers", spec := "fnExactApplyWaivers", unfollowed := true, recurses := true, apart := false }
def FnExactApplyWaiversSaid : Prop := fnExactApplyWaiversRow.holds Tryz.pinned (OpenSpec.ofChange fnExactApplyWaiversSpec)

/-- ITS FALSE NEIGHBOUR: 'it returns false'. Refute it at one input. -/
def fnExactApplyWaiversWrong : ChangeSpec := { name := "fnExactApplyWaivers", fn := fun _ => fun
  | [d1, d2, d3] => { results := [.lit (.bool false)], args := [d1, d2, d3] }
  | _ => none }
def FnExactApplyWaiversWrongFalsely : Prop := fnExactApplyWaiversRow.holds Tryz.pinned (OpenSpec.ofChange fnExactApplyWaiversWrong)

/-- 'laws.FnWaiveSplit': WHATEVER THE INPUT: true; the input reads as it did. -/
def fnWaiveSplitSpec : ChangeSpec := { name := "fnWaiveSplit", fn := fun _ => fun
  | [d] => { results := [.lit (.bool true)], args := [d] }
  | _ => none }
def fnWaiveSplitRow : OpenClaim := { program := "ytgngpegmaceaiaagreat", sum := "7e618503ef74c037c1954bf29fc5fe944726e770352abe74d80c1974454d6364", func := "loop.example/g00890/laws.FnWaiveSplit", spec := "fnWaiveSplit", unfollowed := true, recurses := true, apart := false }
def FnWaiveSplitSaid : Prop := fnWaiveSplitRow.holds Tryz.pinned (OpenSpec.ofChange fnWaiveSplitSpec)

/-- ITS FALSE NEIGHBOUR: 'it returns false'. Refute it at one input. -/
def fnWaiveSplitWrong : ChangeSpec := { name := "fnWaiveSplit", fn := fun _ => fun
  | [d] => { results := [.lit (.bool false)], args := [d] }
  | _ => none }
def FnWaiveSplitWrongFalsely : Prop := fnWaiveSplitRow.holds Tryz.pinned (OpenSpec.ofChange fnWaiveSplitWrong)

/-- 'laws.FnWaiveAll': WHATEVER THE INPUT: true; the input reads as it did. -/
def fnWaiveAllSpec : ChangeSpec := { name := "fnWaiveAll", fn := fun _ => fun
  | [d] => { results := [.lit (.bool true)], args := [d] }
  | _ => none }
def fnWaiveAllRow : OpenClaim := { program := "ytgngpegmaceaiaagreat", sum := "7e618503ef74c037c1954bf29fc5fe944726e770352abe74d80c1974454d6364", func := "loop.example/g00890/laws.FnWaiveAll", spec := "fnWaiveAll", inPlace := ["slices.overlaps[loop.example/g00890/impl.Waiver]"], unfollowed := true, recurses := true, apart := false }
def FnWaiveAllSaid : Prop := fnWaiveAllRow.holds Tryz.pinned (OpenSpec.ofChange fnWaiveAllSpec)

/-- ITS FALSE NEIGHBOUR: 'it returns false'. Refute it at one input. -/
def fnWaiveAllWrong : ChangeSpec := { name := "fnWaiveAll", fn := fun _ => fun
  | [d] => { results := [.lit (.bool false)], args := [d] }
  | _ => none }
def FnWaiveAllWrongFalsely : Prop := fnWaiveAllRow.holds Tryz.pinned (OpenSpec.ofChange fnWaiveAllWrong)

/-- 'laws.FnRecheck': WHATEVER THE INPUT: true; the input reads as it did. -/
def fnRecheckSpec : ChangeSpec := { name := "fnRecheck", fn := fun _ => fun
  | [d] => { results := [.lit (.bool true)], args := [d] }
  | _ => none }
def fnRecheckRow : OpenClaim := { program := "ytgngpegmaceaiaagreat", sum := "7e618503ef74c037c1954bf29fc5fe944726e770352abe74d80c1974454d6364", func := "loop.example/g00890/laws.FnRecheck", spec := "fnRecheck", unfollowed := true, recurses := true, apart := false }
def FnRecheckSaid : Prop := fnRecheckRow.holds Tryz.pinned (OpenSpec.ofChange fnRecheckSpec)

/-- ITS FALSE NEIGHBOUR: 'it returns false'. Refute it at one input. -/
def fnRecheckWrong : ChangeSpec := { name := "fnRecheck", fn := fun _ => fun
  | [d] => { results := [.lit (.bool false)], args := [d] }
  | _ => none }
def FnRecheckWrongFalsely : Prop := fnRecheckRow.holds Tryz.pinned (OpenSpec.ofChange fnRecheckWrong)

/- THE SECOND FORM. 'bulk': how many values and letters a reading holds, each counted each time it is reached (what is shared counts as often as it is met; a slice's spare places count too). A statement '..UptoSaid' is the law's where the arguments, and the package variables that the reading takes, are together of bulk at most 1048576: NARROWER than '..Said'. Prove '..Said' where nothing that the law and all that it calls make is longer than what came in: it says more and counts as full. Else prove '..UptoSaid'. A law counts once. -/
mutual
def uptoBulk {H : Type} : DataW H → Nat
  | .lit (.string bytes) => bytes.length + 1
  | .lit _ => 1
  | .nil => 1
  | .ptr d => uptoBulk d + 1
  | .slice elems spare => uptoBulkAll elems + uptoBulkAll spare + 1
  | .agg parts => uptoBulkAll parts + 1
  | .iface _ d => uptoBulk d + 1
  | .map entries => uptoBulkEntries entries + 1
  | .held _ => 1
def uptoBulkAll {H : Type} : List (DataW H) → Nat
  | [] => 0
  | d :: r => uptoBulk d + uptoBulkAll r
def uptoBulkEntries {H : Type} : List (Lit × DataW H) → Nat
  | [] => 0
  | x :: r => uptoBulkEntry x + uptoBulkEntries r
def uptoBulkEntry {H : Type} : Lit × DataW H → Nat
  | (.string bytes, d) => bytes.length + uptoBulk d + 1
  | (_, d) => uptoBulk d + 1
 end
def uptoSmall : (H : Type) → List (DataW H) → Bool := fun _ ds => decide (uptoBulkAll ds ≤ 1048576)
def OpenSpec.upto (s : _root_.Go.ChangeSpec) : _root_.Go.OpenSpec := { _root_.Go.OpenSpec.ofChange s with cond := some uptoSmall }

/-- 'laws.FnExactViolationSignature', WHERE WHAT IT READS IS OF BULK AT MOST 1048576: true; the input reads as it did. -/
def fnExactViolationSignatureUptoRow : OpenClaim := { program := "ytgngpegmaceaiaagreat", sum := "7e618503ef74c037c1954bf29fc5fe944726e770352abe74d80c1974454d6364", func := "loop.example/g00890/laws.FnExactViolationSignature", spec := "fnExactViolationSignature", unfollowed := true, recurses := true, apart := false, narrowed := true }
def FnExactViolationSignatureUptoSaid : Prop := fnExactViolationSignatureUptoRow.holds Tryz.pinned (OpenSpec.upto fnExactViolationSignatureSpec)

/-- 'laws.FnExactRecheckMarkers', WHERE WHAT IT READS IS OF BULK AT MOST 1048576: true; the input reads as it did. -/
def fnExactRecheckMarkersUptoRow : OpenClaim := { program := "ytgngpegmaceaiaagreat", sum := "7e618503ef74c037c1954bf29fc5fe944726e770352abe74d80c1974454d6364", func := "loop.example/g00890/laws.FnExactRecheckMarkers", spec := "fnExactRecheckMarkers", unfollowed := true, recurses := true, apart := false, narrowed := true }
def FnExactRecheckMarkersUptoSaid : Prop := fnExactRecheckMarkersUptoRow.holds Tryz.pinned (OpenSpec.upto fnExactRecheckMarkersSpec)

/-- 'laws.FnExactUnusedWaivers', WHERE WHAT IT READS IS OF BULK AT MOST 1048576: true; the input reads as it did. -/
def fnExactUnusedWaiversUptoRow : OpenClaim := { program := "ytgngpegmaceaiaagreat", sum := "7e618503ef74c037c1954bf29fc5fe944726e770352abe74d80c1974454d6364", func := "loop.example/g00890/laws.FnExactUnusedWaivers", spec := "fnExactUnusedWaivers", unfollowed := true, recurses := true, apart := false, narrowed := true }
def FnExactUnusedWaiversUptoSaid : Prop := fnExactUnusedWaiversUptoRow.holds Tryz.pinned (OpenSpec.upto fnExactUnusedWaiversSpec)

/-- 'laws.FnExactApplyWaivers', WHERE WHAT IT READS IS OF BULK AT MOST 1048576: true; the input reads as it did. -/
def fnExactApplyWaiversUptoRow : OpenClaim := { program := "ytgngpegmaceaiaagreat", sum := "7e618503ef74c037c1954bf29fc5fe944726e770352abe74d80c1974454d6364", func := "loop.example/g00890/laws.FnExactApplyWaivers", spec := "fnExactApplyWaivers", unfollowed := true, recurses := true, apart := false, narrowed := true }
def FnExactApplyWaiversUptoSaid : Prop := fnExactApplyWaiversUptoRow.holds Tryz.pinned (OpenSpec.upto fnExactApplyWaiversSpec)

/-- 'laws.FnWaiveSplit', WHERE WHAT IT READS IS OF BULK AT MOST 1048576: true; the input reads as it did. -/
def fnWaiveSplitUptoRow : OpenClaim := { program := "ytgngpegmaceaiaagreat", sum := "7e618503ef74c037c1954bf29fc5fe944726e770352abe74d80c1974454d6364", func := "loop.example/g00890/laws.FnWaiveSplit", spec := "fnWaiveSplit", unfollowed := true, recurses := true, apart := false, narrowed := true }
def FnWaiveSplitUptoSaid : Prop := fnWaiveSplitUptoRow.holds Tryz.pinned (OpenSpec.upto fnWaiveSplitSpec)

/-- 'laws.FnWaiveAll', WHERE WHAT IT READS IS OF BULK AT MOST 1048576: true; the input reads as it did. -/
def fnWaiveAllUptoRow : OpenClaim := { program := "ytgngpegmaceaiaagreat", sum := "7e618503ef74c037c1954bf29fc5fe944726e770352abe74d80c1974454d6364", func := "loop.example/g00890/laws.FnWaiveAll", spec := "fnWaiveAll", inPlace := ["slices.overlaps[loop.example/g00890/impl.Waiver]"], unfollowed := true, recurses := true, apart := false, narrowed := true }
def FnWaiveAllUptoSaid : Prop := fnWaiveAllUptoRow.holds Tryz.pinned (OpenSpec.upto fnWaiveAllSpec)

/-- 'laws.FnRecheck', WHERE WHAT IT READS IS OF BULK AT MOST 1048576: true; the input reads as it did. -/
def fnRecheckUptoRow : OpenClaim := { program := "ytgngpegmaceaiaagreat", sum := "7e618503ef74c037c1954bf29fc5fe944726e770352abe74d80c1974454d6364", func := "loop.example/g00890/laws.FnRecheck", spec := "fnRecheck", unfollowed := true, recurses := true, apart := false, narrowed := true }
def FnRecheckUptoSaid : Prop := fnRecheckUptoRow.holds Tryz.pinned (OpenSpec.upto fnRecheckSpec)

end Rows
end Go.Proofs.YtgngpegmaceaiaaGreat
