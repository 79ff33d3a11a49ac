/-
  No cell of these rows narrows 'for every input' (looked for: loops, veiled, ifaces, maps, wideKeys, modest, calm, conditions, laid).
  DERIVED. THE GIVEN ROWS OF THIS SEAT. 7 by the template 'for every input the law returns true; each argument reads behind the call as it read before'; 0 by the template 'total and deterministic' (their statements: YtbkaincaahcnfaaGreatTotals.lean).
  GIVEN WITH THE SEED: the statements are not yours to turn. If you find one false, say at which input.
  Laid BY PROGRAM, IN A SANDBOX (cutbox-rows.mjs): the forced cells as the released guide's own fill.sh prints them over the translation 932ce4fe5d1d9566… (all of the seat's roots in one cut). By AI agents, Wed Nov 11 2026. No macro, syntax, notation, axiom, sorry.
-/
import Derived.Test.YtbkaincaahcnfaaGreatChecked
import GoSem.Claim
import GoSem.ClaimJoined
import GoSem.ClaimMapViews
import Derived.JoinedTies
import Derived.KernelRfl
namespace Go.Proofs.YtbkaincaahcnfaaGreat
/- THE CELL 'sum', in the pinned program and in every row, IS THE sha256 OF THE DUMP (.gsa) THAT YtbkaincaahcnfaaGreatProg.lean LOADS. Nothing in Lean hashes anything: it is a label: what it is worth is what the hold of that sum in a sandbox is worth. -/
noncomputable def Tryz.pinned : Pinned := { name := "ytbkaincaahcnfaagreat", sum := "932ce4fe5d1d9566743a6accd794236640adbf2e930c39e8bf71460e04307205", checked := Tryz.checked }
namespace Rows
def none {H : Type} : Left H := { results := [], args := [] }

/-- 'laws.FnExactIsContextFree': WHATEVER THE INPUT: true; the input reads as it did. -/
def fnExactIsContextFreeSpec : ChangeSpec := { name := "fnExactIsContextFree", fn := fun _ => fun
  | [d1, d2, d3, d4] => { results := [.lit (.bool true)], args := [d1, d2, d3, d4] }
  | _ => none }
def fnExactIsContextFreeRow : OpenClaim := { program := "ytbkaincaahcnfaagreat", sum := "932ce4fe5d1d9566743a6accd794236640adbf2e930c39e8bf71460e04307205", func := "loop.example/g00890/laws.FnExactIsContextFree", spec := "fnExactIsContextFree", unfollowed := true, recurses := true, apart := false }
def FnExactIsContextFreeSaid : Prop := fnExactIsContextFreeRow.holds Tryz.pinned (OpenSpec.ofChange fnExactIsContextFreeSpec)

/-- ITS FALSE NEIGHBOUR: 'it returns false'. Refute it at one input. -/
def fnExactIsContextFreeWrong : ChangeSpec := { name := "fnExactIsContextFree", fn := fun _ => fun
  | [d1, d2, d3, d4] => { results := [.lit (.bool false)], args := [d1, d2, d3, d4] }
  | _ => none }
def FnExactIsContextFreeWrongFalsely : Prop := fnExactIsContextFreeRow.holds Tryz.pinned (OpenSpec.ofChange fnExactIsContextFreeWrong)

/-- 'laws.FnExactContextFreeElements': WHATEVER THE INPUT: true; the input reads as it did. -/
def fnExactContextFreeElementsSpec : ChangeSpec := { name := "fnExactContextFreeElements", fn := fun _ => fun
  | [d1, d2, d3] => { results := [.lit (.bool true)], args := [d1, d2, d3] }
  | _ => none }
def fnExactContextFreeElementsRow : OpenClaim := { program := "ytbkaincaahcnfaagreat", sum := "932ce4fe5d1d9566743a6accd794236640adbf2e930c39e8bf71460e04307205", func := "loop.example/g00890/laws.FnExactContextFreeElements", spec := "fnExactContextFreeElements", unfollowed := true, recurses := true, apart := false }
def FnExactContextFreeElementsSaid : Prop := fnExactContextFreeElementsRow.holds Tryz.pinned (OpenSpec.ofChange fnExactContextFreeElementsSpec)

/-- ITS FALSE NEIGHBOUR: 'it returns false'. Refute it at one input. -/
def fnExactContextFreeElementsWrong : ChangeSpec := { name := "fnExactContextFreeElements", fn := fun _ => fun
  | [d1, d2, d3] => { results := [.lit (.bool false)], args := [d1, d2, d3] }
  | _ => none }
def FnExactContextFreeElementsWrongFalsely : Prop := fnExactContextFreeElementsRow.holds Tryz.pinned (OpenSpec.ofChange fnExactContextFreeElementsWrong)

/-- 'laws.FnExactElementLayout': WHATEVER THE INPUT: true; the input reads as it did. -/
def fnExactElementLayoutSpec : ChangeSpec := { name := "fnExactElementLayout", fn := fun _ => fun
  | [d1, d2, d3] => { results := [.lit (.bool true)], args := [d1, d2, d3] }
  | _ => none }
def fnExactElementLayoutRow : OpenClaim := { program := "ytbkaincaahcnfaagreat", sum := "932ce4fe5d1d9566743a6accd794236640adbf2e930c39e8bf71460e04307205", func := "loop.example/g00890/laws.FnExactElementLayout", spec := "fnExactElementLayout", unfollowed := true, recurses := true, apart := false }
def FnExactElementLayoutSaid : Prop := fnExactElementLayoutRow.holds Tryz.pinned (OpenSpec.ofChange fnExactElementLayoutSpec)

/-- ITS FALSE NEIGHBOUR: 'it returns false'. Refute it at one input. -/
def fnExactElementLayoutWrong : ChangeSpec := { name := "fnExactElementLayout", fn := fun _ => fun
  | [d1, d2, d3] => { results := [.lit (.bool false)], args := [d1, d2, d3] }
  | _ => none }
def FnExactElementLayoutWrongFalsely : Prop := fnExactElementLayoutRow.holds Tryz.pinned (OpenSpec.ofChange fnExactElementLayoutWrong)

/-- 'laws.FnExactRestLayout': WHATEVER THE INPUT: true; the input reads as it did. -/
def fnExactRestLayoutSpec : ChangeSpec := { name := "fnExactRestLayout", fn := fun _ => fun
  | [d1, d2, d3] => { results := [.lit (.bool true)], args := [d1, d2, d3] }
  | _ => none }
def fnExactRestLayoutRow : OpenClaim := { program := "ytbkaincaahcnfaagreat", sum := "932ce4fe5d1d9566743a6accd794236640adbf2e930c39e8bf71460e04307205", func := "loop.example/g00890/laws.FnExactRestLayout", spec := "fnExactRestLayout", unfollowed := true, recurses := true, apart := false }
def FnExactRestLayoutSaid : Prop := fnExactRestLayoutRow.holds Tryz.pinned (OpenSpec.ofChange fnExactRestLayoutSpec)

/-- ITS FALSE NEIGHBOUR: 'it returns false'. Refute it at one input. -/
def fnExactRestLayoutWrong : ChangeSpec := { name := "fnExactRestLayout", fn := fun _ => fun
  | [d1, d2, d3] => { results := [.lit (.bool false)], args := [d1, d2, d3] }
  | _ => none }
def FnExactRestLayoutWrongFalsely : Prop := fnExactRestLayoutRow.holds Tryz.pinned (OpenSpec.ofChange fnExactRestLayoutWrong)

/-- 'laws.FnExactOwnPieces': WHATEVER THE INPUT: true; the input reads as it did. -/
def fnExactOwnPiecesSpec : ChangeSpec := { name := "fnExactOwnPieces", fn := fun _ => fun
  | [d1, d2] => { results := [.lit (.bool true)], args := [d1, d2] }
  | _ => none }
def fnExactOwnPiecesRow : OpenClaim := { program := "ytbkaincaahcnfaagreat", sum := "932ce4fe5d1d9566743a6accd794236640adbf2e930c39e8bf71460e04307205", func := "loop.example/g00890/laws.FnExactOwnPieces", spec := "fnExactOwnPieces", unfollowed := true, recurses := true, apart := false }
def FnExactOwnPiecesSaid : Prop := fnExactOwnPiecesRow.holds Tryz.pinned (OpenSpec.ofChange fnExactOwnPiecesSpec)

/-- ITS FALSE NEIGHBOUR: 'it returns false'. Refute it at one input. -/
def fnExactOwnPiecesWrong : ChangeSpec := { name := "fnExactOwnPieces", fn := fun _ => fun
  | [d1, d2] => { results := [.lit (.bool false)], args := [d1, d2] }
  | _ => none }
def FnExactOwnPiecesWrongFalsely : Prop := fnExactOwnPiecesRow.holds Tryz.pinned (OpenSpec.ofChange fnExactOwnPiecesWrong)

/-- 'laws.FnExactPlacedPieces': WHATEVER THE INPUT: true; the input reads as it did. -/
def fnExactPlacedPiecesSpec : ChangeSpec := { name := "fnExactPlacedPieces", fn := fun _ => fun
  | [d1, d2] => { results := [.lit (.bool true)], args := [d1, d2] }
  | _ => none }
def fnExactPlacedPiecesRow : OpenClaim := { program := "ytbkaincaahcnfaagreat", sum := "932ce4fe5d1d9566743a6accd794236640adbf2e930c39e8bf71460e04307205", func := "loop.example/g00890/laws.FnExactPlacedPieces", spec := "fnExactPlacedPieces", unfollowed := true, recurses := true, apart := false }
def FnExactPlacedPiecesSaid : Prop := fnExactPlacedPiecesRow.holds Tryz.pinned (OpenSpec.ofChange fnExactPlacedPiecesSpec)

/-- ITS FALSE NEIGHBOUR: 'it returns false'. Refute it at one input. -/
def fnExactPlacedPiecesWrong : ChangeSpec := { name := "fnExactPlacedPieces", fn := fun _ => fun
  | [d1, d2] => { results := [.lit (.bool false)], args := [d1, d2] }
  | _ => none }
def FnExactPlacedPiecesWrongFalsely : Prop := fnExactPlacedPiecesRow.holds Tryz.pinned (OpenSpec.ofChange fnExactPlacedPiecesWrong)

/-- 'laws.FnExactCrossingCells': WHATEVER THE INPUT: true; the input reads as it did. -/
def fnExactCrossingCellsSpec : ChangeSpec := { name := "fnExactCrossingCells", fn := fun _ => fun
  | [d1, d2] => { results := [.lit (.bool true)], args := [d1, d2] }
  | _ => none }
def fnExactCrossingCellsRow : OpenClaim := { program := "ytbkaincaahcnfaagreat", sum := "932ce4fe5d1d9566743a6accd794236640adbf2e930c39e8bf71460e04307205", func := "loop.example/g00890/laws.FnExactCrossingCells", spec := "fnExactCrossingCells", unfollowed := true, recurses := true, apart := false }
def FnExactCrossingCellsSaid : Prop := fnExactCrossingCellsRow.holds Tryz.pinned (OpenSpec.ofChange fnExactCrossingCellsSpec)

/-- ITS FALSE NEIGHBOUR: 'it returns false'. Refute it at one input. -/
def fnExactCrossingCellsWrong : ChangeSpec := { name := "fnExactCrossingCells", fn := fun _ => fun
  | [d1, d2] => { results := [.lit (.bool false)], args := [d1, d2] }
  | _ => none }
def FnExactCrossingCellsWrongFalsely : Prop := fnExactCrossingCellsRow.holds Tryz.pinned (OpenSpec.ofChange fnExactCrossingCellsWrong)

/- THE SECOND FORM. 'bulk': how many values and letters a reading holds, each counted each time it is reached (what is shared counts as often as it is met; a slice's spare places count too). A statement '..UptoSaid' is the law's where the arguments, and the package variables that the reading takes, are together of bulk at most 1048576: NARROWER than '..Said'. Prove '..Said' where nothing that the law and all that it calls make is longer than what came in: it says more and counts as full. Else prove '..UptoSaid'. A law counts once. -/
mutual
def uptoBulk {H : Type} : DataW H → Nat
  | .lit (.string bytes) => bytes.length + 1
  | .lit _ => 1
  | .nil => 1
  | .ptr d => uptoBulk d + 1
  | .slice elems spare => uptoBulkAll elems + uptoBulkAll spare + 1
  | .agg parts => uptoBulkAll parts + 1
  | .iface _ d => uptoBulk d + 1
  | .map entries => uptoBulkEntries entries + 1
  | .held _ => 1
def uptoBulkAll {H : Type} : List (DataW H) → Nat
  | [] => 0
  | d :: r => uptoBulk d + uptoBulkAll r
def uptoBulkEntries {H : Type} : List (Lit × DataW H) → Nat
  | [] => 0
  | x :: r => uptoBulkEntry x + uptoBulkEntries r
def uptoBulkEntry {H : Type} : Lit × DataW H → Nat
  | (.string bytes, d) => bytes.length + uptoBulk d + 1
  | (_, d) => uptoBulk d + 1
 end
def uptoSmall : (H : Type) → List (DataW H) → Bool := fun _ ds => decide (uptoBulkAll ds ≤ 1048576)
def OpenSpec.upto (s : _root_.Go.ChangeSpec) : _root_.Go.OpenSpec := { _root_.Go.OpenSpec.ofChange s with cond := some uptoSmall }

/-- 'laws.FnExactIsContextFree', WHERE WHAT IT READS IS OF BULK AT MOST 1048576: true; the input reads as it did. -/
def fnExactIsContextFreeUptoRow : OpenClaim := { program := "ytbkaincaahcnfaagreat", sum := "932ce4fe5d1d9566743a6accd794236640adbf2e930c39e8bf71460e04307205", func := "loop.example/g00890/laws.FnExactIsContextFree", spec := "fnExactIsContextFree", unfollowed := true, recurses := true, apart := false, narrowed := true }
def FnExactIsContextFreeUptoSaid : Prop := fnExactIsContextFreeUptoRow.holds Tryz.pinned (OpenSpec.upto fnExactIsContextFreeSpec)

/-- 'laws.FnExactContextFreeElements', WHERE WHAT IT READS IS OF BULK AT MOST 1048576: true; the input reads as it did. -/
def fnExactContextFreeElementsUptoRow : OpenClaim := { program := "ytbkaincaahcnfaagreat", sum := "932ce4fe5d1d9566743a6accd794236640adbf2e930c39e8bf71460e04307205", func := "loop.example/g00890/laws.FnExactContextFreeElements", spec := "fnExactContextFreeElements", unfollowed := true, recurses := true, apart := false, narrowed := true }
def FnExactContextFreeElementsUptoSaid : Prop := fnExactContextFreeElementsUptoRow.holds Tryz.pinned (OpenSpec.upto fnExactContextFreeElementsSpec)

/-- 'laws.FnExactElementLayout', WHERE WHAT IT READS IS OF BULK AT MOST 1048576: true; the input reads as it did. -/
def fnExactElementLayoutUptoRow : OpenClaim := { program := "ytbkaincaahcnfaagreat", sum := "932ce4fe5d1d9566743a6accd794236640adbf2e930c39e8bf71460e04307205", func := "loop.example/g00890/laws.FnExactElementLayout", spec := "fnExactElementLayout", unfollowed := true, recurses := true, apart := false, narrowed := true }
def FnExactElementLayoutUptoSaid : Prop := fnExactElementLayoutUptoRow.holds Tryz.pinned (OpenSpec.upto fnExactElementLayoutSpec)

/-- 'laws.FnExactRestLayout', WHERE WHAT IT READS IS OF BULK AT MOST 1048576: true; the input reads as it did. -/
def fnExactRestLayoutUptoRow : OpenClaim := { program := "ytbkaincaahcnfaagreat", sum := "932ce4fe5d1d9566743a6accd794236640adbf2e930c39e8bf71460e04307205", func := "loop.example/g00890/laws.FnExactRestLayout", spec := "fnExactRestLayout", unfollowed := true, recurses := true, apart := false, narrowed := true }
def FnExactRestLayoutUptoSaid : Prop := fnExactRestLayoutUptoRow.holds Tryz.pinned (OpenSpec.upto fnExactRestLayoutSpec)

/-- 'laws.FnExactOwnPieces', WHERE WHAT IT READS IS OF BULK AT MOST 1048576: true; the input reads as it did. -/
def fnExactOwnPiecesUptoRow : OpenClaim := { program := "ytbkaincaahcnfaagreat", sum := "932ce4fe5d1d9566743a6accd794236640adbf2e930c39e8bf71460e04307205", func := "loop.example/g00890/laws.FnExactOwnPieces", spec := "fnExactOwnPieces", unfollowed := true, recurses := true, apart := false, narrowed := true }
def FnExactOwnPiecesUptoSaid : Prop := fnExactOwnPiecesUptoRow.holds Tryz.pinned (OpenSpec.upto fnExactOwnPiecesSpec)

/-- 'laws.FnExactPlacedPieces', WHERE WHAT IT READS IS OF BULK AT MOST 1048576: true; the input reads as it did. -/
def fnExactPlacedPiecesUptoRow : OpenClaim := { program := "ytbkaincaahcnfaagreat", sum := "932ce4fe5d1d9566743a6accd794236640adbf2e930c39e8bf71460e04307205", func := "loop.example/g00890/laws.FnExactPlacedPieces", spec := "fnExactPlacedPieces", unfollowed := true, recurses := true, apart := false, narrowed := true }
def FnExactPlacedPiecesUptoSaid : Prop := fnExactPlacedPiecesUptoRow.holds Tryz.pinned (OpenSpec.upto fnExactPlacedPiecesSpec)

/-- 'laws.FnExactCrossingCells', WHERE WHAT IT READS IS OF BULK AT MOST 1048576: true; the input reads as it did. -/
def fnExactCrossingCellsUptoRow : OpenClaim := { program := "ytbkaincaahcnfaagreat", sum := "932ce4fe5d1d9566743a6accd794236640adbf2e930c39e8bf71460e04307205", func := "loop.example/g00890/laws.FnExactCrossingCells", spec := "fnExactCrossingCells", unfollowed := true, recurses := true, apart := false, narrowed := true }
def FnExactCrossingCellsUptoSaid : Prop := fnExactCrossingCellsUptoRow.holds Tryz.pinned (OpenSpec.upto fnExactCrossingCellsSpec)

end Rows
end Go.Proofs.YtbkaincaahcnfaaGreat
