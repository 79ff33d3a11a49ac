/-
  No cell of these rows narrows 'for every input' (looked for: loops, veiled, ifaces, maps, wideKeys, modest, calm, conditions, laid).
  DERIVED. THE GIVEN ROWS OF THIS SEAT. 5 by the template 'for every input the law returns true; each argument reads behind the call as it read before'; 0 by the template 'total and deterministic' (their statements: YthhjapiggekjbaaGreatTotals.lean).
  GIVEN WITH THE SEED: the statements are not yours to turn. If you find one false, say at which input.
  Laid BY PROGRAM, IN A SANDBOX (cutbox-rows.mjs): the forced cells as the released guide's own fill.sh prints them over the translation 0af91514ba7bb361… (all of the seat's roots in one cut). By AI agents, Wed Nov 11 2026. No macro, syntax, notation, axiom, sorry.
-/
import Derived.Test.YthhjapiggekjbaaGreatChecked
import GoSem.Claim
import GoSem.ClaimJoined
import GoSem.ClaimMapViews
import Derived.JoinedTies
import Derived.KernelRfl
namespace Go.Proofs.YthhjapiggekjbaaGreat
/- THE CELL 'sum', in the pinned program and in every row, IS THE sha256 OF THE DUMP (.gsa) THAT YthhjapiggekjbaaGreatProg.lean LOADS. Nothing in Lean hashes anything: it is a label: what it is worth is what the hold of that sum in a sandbox is worth. -/
noncomputable def Tryz.pinned : Pinned := { name := "ythhjapiggekjbaagreat", sum := "0af91514ba7bb3613626b236154e9762097558949140711fad465ea0f087a7d5", checked := Tryz.checked }
namespace Rows
def none {H : Type} : Left H := { results := [], args := [] }

/-- 'laws.FnExactPieceClasses': WHATEVER THE INPUT: true; the input reads as it did. -/
def fnExactPieceClassesSpec : ChangeSpec := { name := "fnExactPieceClasses", fn := fun _ => fun
  | [d1, d2] => { results := [.lit (.bool true)], args := [d1, d2] }
  | _ => none }
def fnExactPieceClassesRow : OpenClaim := { program := "ythhjapiggekjbaagreat", sum := "0af91514ba7bb3613626b236154e9762097558949140711fad465ea0f087a7d5", func := "loop.example/g00890/laws.FnExactPieceClasses", spec := "fnExactPieceClasses", unfollowed := true, recurses := true, apart := false }
def FnExactPieceClassesSaid : Prop := fnExactPieceClassesRow.holds Tryz.pinned (OpenSpec.ofChange fnExactPieceClassesSpec)

/-- ITS FALSE NEIGHBOUR: 'it returns false'. Refute it at one input. -/
def fnExactPieceClassesWrong : ChangeSpec := { name := "fnExactPieceClasses", fn := fun _ => fun
  | [d1, d2] => { results := [.lit (.bool false)], args := [d1, d2] }
  | _ => none }
def FnExactPieceClassesWrongFalsely : Prop := fnExactPieceClassesRow.holds Tryz.pinned (OpenSpec.ofChange fnExactPieceClassesWrong)

/-- 'laws.FnExactNetOccurrences': WHATEVER THE INPUT: true; the input reads as it did. -/
def fnExactNetOccurrencesSpec : ChangeSpec := { name := "fnExactNetOccurrences", fn := fun _ => fun
  | [d1, d2, d3] => { results := [.lit (.bool true)], args := [d1, d2, d3] }
  | _ => none }
def fnExactNetOccurrencesRow : OpenClaim := { program := "ythhjapiggekjbaagreat", sum := "0af91514ba7bb3613626b236154e9762097558949140711fad465ea0f087a7d5", func := "loop.example/g00890/laws.FnExactNetOccurrences", spec := "fnExactNetOccurrences", unfollowed := true, recurses := true, apart := false }
def FnExactNetOccurrencesSaid : Prop := fnExactNetOccurrencesRow.holds Tryz.pinned (OpenSpec.ofChange fnExactNetOccurrencesSpec)

/-- ITS FALSE NEIGHBOUR: 'it returns false'. Refute it at one input. -/
def fnExactNetOccurrencesWrong : ChangeSpec := { name := "fnExactNetOccurrences", fn := fun _ => fun
  | [d1, d2, d3] => { results := [.lit (.bool false)], args := [d1, d2, d3] }
  | _ => none }
def FnExactNetOccurrencesWrongFalsely : Prop := fnExactNetOccurrencesRow.holds Tryz.pinned (OpenSpec.ofChange fnExactNetOccurrencesWrong)

/-- 'laws.FnHierNets': WHATEVER THE INPUT: true; the input reads as it did. -/
def fnHierNetsSpec : ChangeSpec := { name := "fnHierNets", fn := fun _ => fun
  | [d] => { results := [.lit (.bool true)], args := [d] }
  | _ => none }
def fnHierNetsRow : OpenClaim := { program := "ythhjapiggekjbaagreat", sum := "0af91514ba7bb3613626b236154e9762097558949140711fad465ea0f087a7d5", func := "loop.example/g00890/laws.FnHierNets", spec := "fnHierNets", unfollowed := true, recurses := true, apart := false }
def FnHierNetsSaid : Prop := fnHierNetsRow.holds Tryz.pinned (OpenSpec.ofChange fnHierNetsSpec)

/-- ITS FALSE NEIGHBOUR: 'it returns false'. Refute it at one input. -/
def fnHierNetsWrong : ChangeSpec := { name := "fnHierNets", fn := fun _ => fun
  | [d] => { results := [.lit (.bool false)], args := [d] }
  | _ => none }
def FnHierNetsWrongFalsely : Prop := fnHierNetsRow.holds Tryz.pinned (OpenSpec.ofChange fnHierNetsWrong)

/-- 'laws.FnHierClasses': WHATEVER THE INPUT: true; the input reads as it did. -/
def fnHierClassesSpec : ChangeSpec := { name := "fnHierClasses", fn := fun _ => fun
  | [d] => { results := [.lit (.bool true)], args := [d] }
  | _ => none }
def fnHierClassesRow : OpenClaim := { program := "ythhjapiggekjbaagreat", sum := "0af91514ba7bb3613626b236154e9762097558949140711fad465ea0f087a7d5", func := "loop.example/g00890/laws.FnHierClasses", spec := "fnHierClasses", unfollowed := true, recurses := true, apart := false }
def FnHierClassesSaid : Prop := fnHierClassesRow.holds Tryz.pinned (OpenSpec.ofChange fnHierClassesSpec)

/-- ITS FALSE NEIGHBOUR: 'it returns false'. Refute it at one input. -/
def fnHierClassesWrong : ChangeSpec := { name := "fnHierClasses", fn := fun _ => fun
  | [d] => { results := [.lit (.bool false)], args := [d] }
  | _ => none }
def FnHierClassesWrongFalsely : Prop := fnHierClassesRow.holds Tryz.pinned (OpenSpec.ofChange fnHierClassesWrong)

/-- 'laws.FnInternalNets': WHATEVER THE INPUT: true; the input reads as it did. -/
def fnInternalNetsSpec : ChangeSpec := { name := "fnInternalNets", fn := fun _ => fun
  | [d] => { results := [.lit (.bool true)], args := [d] }
  | _ => none }
def fnInternalNetsRow : OpenClaim := { program := "ythhjapiggekjbaagreat", sum := "0af91514ba7bb3613626b236154e9762097558949140711fad465ea0f087a7d5", func := "loop.example/g00890/laws.FnInternalNets", spec := "fnInternalNets", unfollowed := true, recurses := true, apart := false }
def FnInternalNetsSaid : Prop := fnInternalNetsRow.holds Tryz.pinned (OpenSpec.ofChange fnInternalNetsSpec)

/-- ITS FALSE NEIGHBOUR: 'it returns false'. Refute it at one input. -/
def fnInternalNetsWrong : ChangeSpec := { name := "fnInternalNets", fn := fun _ => fun
  | [d] => { results := [.lit (.bool false)], args := [d] }
  | _ => none }
def FnInternalNetsWrongFalsely : Prop := fnInternalNetsRow.holds Tryz.pinned (OpenSpec.ofChange fnInternalNetsWrong)

/- THE SECOND FORM. 'bulk': how many values and letters a reading holds, each counted each time it is reached (what is shared counts as often as it is met; a slice's spare places count too). A statement '..UptoSaid' is the law's where the arguments, and the package variables that the reading takes, are together of bulk at most 1048576: NARROWER than '..Said'. Prove '..Said' where nothing that the law and all that it calls make is longer than what came in: it says more and counts as full. Else prove '..UptoSaid'. A law counts once. -/
mutual
def uptoBulk {H : Type} : DataW H → Nat
  | .lit (.string bytes) => bytes.length + 1
  | .lit _ => 1
  | .nil => 1
  | .ptr d => uptoBulk d + 1
  | .slice elems spare => uptoBulkAll elems + uptoBulkAll spare + 1
  | .agg parts => uptoBulkAll parts + 1
  | .iface _ d => uptoBulk d + 1
  | .map entries => uptoBulkEntries entries + 1
  | .held _ => 1
def uptoBulkAll {H : Type} : List (DataW H) → Nat
  | [] => 0
  | d :: r => uptoBulk d + uptoBulkAll r
def uptoBulkEntries {H : Type} : List (Lit × DataW H) → Nat
  | [] => 0
  | x :: r => uptoBulkEntry x + uptoBulkEntries r
def uptoBulkEntry {H : Type} : Lit × DataW H → Nat
  | (.string bytes, d) => bytes.length + uptoBulk d + 1
  | (_, d) => uptoBulk d + 1
 end
def uptoSmall : (H : Type) → List (DataW H) → Bool := fun _ ds => decide (uptoBulkAll ds ≤ 1048576)
def OpenSpec.upto (s : _root_.Go.ChangeSpec) : _root_.Go.OpenSpec := { _root_.Go.OpenSpec.ofChange s with cond := some uptoSmall }

/-- 'laws.FnExactPieceClasses', WHERE WHAT IT READS IS OF BULK AT MOST 1048576: true; the input reads as it did. -/
def fnExactPieceClassesUptoRow : OpenClaim := { program := "ythhjapiggekjbaagreat", sum := "0af91514ba7bb3613626b236154e9762097558949140711fad465ea0f087a7d5", func := "loop.example/g00890/laws.FnExactPieceClasses", spec := "fnExactPieceClasses", unfollowed := true, recurses := true, apart := false, narrowed := true }
def FnExactPieceClassesUptoSaid : Prop := fnExactPieceClassesUptoRow.holds Tryz.pinned (OpenSpec.upto fnExactPieceClassesSpec)

/-- 'laws.FnExactNetOccurrences', WHERE WHAT IT READS IS OF BULK AT MOST 1048576: true; the input reads as it did. -/
def fnExactNetOccurrencesUptoRow : OpenClaim := { program := "ythhjapiggekjbaagreat", sum := "0af91514ba7bb3613626b236154e9762097558949140711fad465ea0f087a7d5", func := "loop.example/g00890/laws.FnExactNetOccurrences", spec := "fnExactNetOccurrences", unfollowed := true, recurses := true, apart := false, narrowed := true }
def FnExactNetOccurrencesUptoSaid : Prop := fnExactNetOccurrencesUptoRow.holds Tryz.pinned (OpenSpec.upto fnExactNetOccurrencesSpec)

/-- 'laws.FnHierNets', WHERE WHAT IT READS IS OF BULK AT MOST 1048576: true; the input reads as it did. -/
def fnHierNetsUptoRow : OpenClaim := { program := "ythhjapiggekjbaagreat", sum := "0af91514ba7bb3613626b236154e9762097558949140711fad465ea0f087a7d5", func := "loop.example/g00890/laws.FnHierNets", spec := "fnHierNets", unfollowed := true, recurses := true, apart := false, narrowed := true }
def FnHierNetsUptoSaid : Prop := fnHierNetsUptoRow.holds Tryz.pinned (OpenSpec.upto fnHierNetsSpec)

/-- 'laws.FnHierClasses', WHERE WHAT IT READS IS OF BULK AT MOST 1048576: true; the input reads as it did. -/
def fnHierClassesUptoRow : OpenClaim := { program := "ythhjapiggekjbaagreat", sum := "0af91514ba7bb3613626b236154e9762097558949140711fad465ea0f087a7d5", func := "loop.example/g00890/laws.FnHierClasses", spec := "fnHierClasses", unfollowed := true, recurses := true, apart := false, narrowed := true }
def FnHierClassesUptoSaid : Prop := fnHierClassesUptoRow.holds Tryz.pinned (OpenSpec.upto fnHierClassesSpec)

/-- 'laws.FnInternalNets', WHERE WHAT IT READS IS OF BULK AT MOST 1048576: true; the input reads as it did. -/
def fnInternalNetsUptoRow : OpenClaim := { program := "ythhjapiggekjbaagreat", sum := "0af91514ba7bb3613626b236154e9762097558949140711fad465ea0f087a7d5", func := "loop.example/g00890/laws.FnInternalNets", spec := "fnInternalNets", unfollowed := true, recurses := true, apart := false, narrowed := true }
def FnInternalNetsUptoSaid : Prop := fnInternalNetsUptoRow.holds Tryz.pinned (OpenSpec.upto fnInternalNetsSpec)

end Rows
end Go.Proofs.YthhjapiggekjbaaGreat
