/-
  No cell of these rows narrows 'for every input' (looked for: loops, veiled, ifaces, maps, wideKeys, modest, calm, conditions, laid).
  DERIVED. THE GIVEN ROWS OF THIS SEAT. 12 by the template 'for every input the law returns true; each argument reads behind the call as it read before'; 0 by the template 'total and deterministic' (their statements: YtilccgeldnlgnaaTotals.lean).
  GIVEN WITH THE SEED: the statements are not yours to turn. If you find one false, say at which input.
  Laid BY PROGRAM, IN A SANDBOX (cutbox-rows.mjs): the forced cells as the released guide's own fill.sh prints them over the translation ffacc4714bf1f482… (all of the seat's roots in one cut). By AI agents, Wed Nov 11 2026. No macro, syntax, notation, axiom, sorry.
-/
import Derived.Test.YtilccgeldnlgnaaChecked
import GoSem.Claim
import GoSem.ClaimJoined
import GoSem.ClaimMapViews
import Derived.JoinedTies
import Derived.KernelRfl
namespace Go.Proofs.Ytilccgeldnlgnaa
/- THE CELL 'sum', in the pinned program and in every row, IS THE sha256 OF THE DUMP (.gsa) THAT YtilccgeldnlgnaaProg.lean LOADS. Nothing in Lean hashes anything: it is a label: what it is worth is what the hold of that sum in a sandbox is worth. -/
noncomputable def Try.pinned : Pinned := { name := "ytilccgeldnlgnaa", sum := "ffacc4714bf1f482583bd5ba2d4c842e9939815a60b5f581dcd0da2be9ca31b8", checked := Try.checked }
namespace Rows
def none {H : Type} : Left H := { results := [], args := [] }

/-- 'laws.FnExactChangedArea': WHATEVER THE INPUT: true; the input reads as it did. -/
def fnExactChangedAreaSpec : ChangeSpec := { name := "fnExactChangedArea", fn := fun _ => fun
  | [d1, d2] => { results := [.lit (.bool true)], args := [d1, d2] }
  | _ => none }
def fnExactChangedAreaRow : OpenClaim := { program := "ytilccgeldnlgnaa", sum := "ffacc4714bf1f482583bd5ba2d4c842e9939815a60b5f581dcd0da2be9ca31b8", func := "loop.example/g00890/laws.FnExactChangedArea", spec := "fnExactChangedArea", unfollowed := true, recurses := true, apart := false }
def FnExactChangedAreaSaid : Prop := fnExactChangedAreaRow.holds Try.pinned (OpenSpec.ofChange fnExactChangedAreaSpec)

/-- ITS FALSE NEIGHBOUR: 'it returns false'. Refute it at one input. -/
def fnExactChangedAreaWrong : ChangeSpec := { name := "fnExactChangedArea", fn := fun _ => fun
  | [d1, d2] => { results := [.lit (.bool false)], args := [d1, d2] }
  | _ => none }
def FnExactChangedAreaWrongFalsely : Prop := fnExactChangedAreaRow.holds Try.pinned (OpenSpec.ofChange fnExactChangedAreaWrong)

/-- 'laws.FnSignature': WHATEVER THE INPUT: true; the input reads as it did. -/
def fnSignatureSpec : ChangeSpec := { name := "fnSignature", fn := fun _ => fun
  | [d] => { results := [.lit (.bool true)], args := [d] }
  | _ => none }
def fnSignatureRow : OpenClaim := { program := "ytilccgeldnlgnaa", sum := "ffacc4714bf1f482583bd5ba2d4c842e9939815a60b5f581dcd0da2be9ca31b8", func := "loop.example/g00890/laws.FnSignature", spec := "fnSignature", apart := false }
def FnSignatureSaid : Prop := fnSignatureRow.holds Try.pinned (OpenSpec.ofChange fnSignatureSpec)

/-- ITS FALSE NEIGHBOUR: 'it returns false'. Refute it at one input. -/
def fnSignatureWrong : ChangeSpec := { name := "fnSignature", fn := fun _ => fun
  | [d] => { results := [.lit (.bool false)], args := [d] }
  | _ => none }
def FnSignatureWrongFalsely : Prop := fnSignatureRow.holds Try.pinned (OpenSpec.ofChange fnSignatureWrong)

/-- 'laws.FnChangedArea': WHATEVER THE INPUT: true; the input reads as it did. -/
def fnChangedAreaSpec : ChangeSpec := { name := "fnChangedArea", fn := fun _ => fun
  | [d] => { results := [.lit (.bool true)], args := [d] }
  | _ => none }
def fnChangedAreaRow : OpenClaim := { program := "ytilccgeldnlgnaa", sum := "ffacc4714bf1f482583bd5ba2d4c842e9939815a60b5f581dcd0da2be9ca31b8", func := "loop.example/g00890/laws.FnChangedArea", spec := "fnChangedArea", unfollowed := true, recurses := true, apart := false }
def FnChangedAreaSaid : Prop := fnChangedAreaRow.holds Try.pinned (OpenSpec.ofChange fnChangedAreaSpec)

/-- ITS FALSE NEIGHBOUR: 'it returns false'. Refute it at one input. -/
def fnChangedAreaWrong : ChangeSpec := { name := "fnChangedArea", fn := fun _ => fun
  | [d] => { results := [.lit (.bool false)], args := [d] }
  | _ => none }
def FnChangedAreaWrongFalsely : Prop := fnChangedAreaRow.holds Try.pinned (OpenSpec.ofChange fnChangedAreaWrong)

/-- 'laws.FnExactRecheckArea': WHATEVER THE INPUT: true; the input reads as it did. -/
def fnExactRecheckAreaSpec : ChangeSpec := { name := "fnExactRecheckArea", fn := fun _ => fun
  | [d1, d2, d3] => { results := [.lit (.bool true)], args := [d1, d2, d3] }
  | _ => none }
def fnExactRecheckAreaRow : OpenClaim := { program := "ytilccgeldnlgnaa", sum := "ffacc4714bf1f482583bd5ba2d4c842e9939815a60b5f581dcd0da2be9ca31b8", func := "loop.example/g00890/laws.FnExactRecheckArea", spec := "fnExactRecheckArea", unfollowed := true, recurses := true, apart := false }
def FnExactRecheckAreaSaid : Prop := fnExactRecheckAreaRow.holds Try.pinned (OpenSpec.ofChange fnExactRecheckAreaSpec)

/-- ITS FALSE NEIGHBOUR: 'it returns false'. Refute it at one input. -/
def fnExactRecheckAreaWrong : ChangeSpec := { name := "fnExactRecheckArea", fn := fun _ => fun
  | [d1, d2, d3] => { results := [.lit (.bool false)], args := [d1, d2, d3] }
  | _ => none }
def FnExactRecheckAreaWrongFalsely : Prop := fnExactRecheckAreaRow.holds Try.pinned (OpenSpec.ofChange fnExactRecheckAreaWrong)

/-- 'laws.FnJoined': WHATEVER THE INPUT: true; the input reads as it did. -/
def fnJoinedSpec : ChangeSpec := { name := "fnJoined", fn := fun _ => fun
  | [d] => { results := [.lit (.bool true)], args := [d] }
  | _ => none }
def fnJoinedRow : OpenClaim := { program := "ytilccgeldnlgnaa", sum := "ffacc4714bf1f482583bd5ba2d4c842e9939815a60b5f581dcd0da2be9ca31b8", func := "loop.example/g00890/laws.FnJoined", spec := "fnJoined", unfollowed := true, recurses := true, apart := false }
def FnJoinedSaid : Prop := fnJoinedRow.holds Try.pinned (OpenSpec.ofChange fnJoinedSpec)

/-- ITS FALSE NEIGHBOUR: 'it returns false'. Refute it at one input. -/
def fnJoinedWrong : ChangeSpec := { name := "fnJoined", fn := fun _ => fun
  | [d] => { results := [.lit (.bool false)], args := [d] }
  | _ => none }
def FnJoinedWrongFalsely : Prop := fnJoinedRow.holds Try.pinned (OpenSpec.ofChange fnJoinedWrong)

/-- 'laws.FnPieces': WHATEVER THE INPUT: true; the input reads as it did. -/
def fnPiecesSpec : ChangeSpec := { name := "fnPieces", fn := fun _ => fun
  | [d] => { results := [.lit (.bool true)], args := [d] }
  | _ => none }
def fnPiecesRow : OpenClaim := { program := "ytilccgeldnlgnaa", sum := "ffacc4714bf1f482583bd5ba2d4c842e9939815a60b5f581dcd0da2be9ca31b8", func := "loop.example/g00890/laws.FnPieces", spec := "fnPieces", unfollowed := true, recurses := true, apart := false }
def FnPiecesSaid : Prop := fnPiecesRow.holds Try.pinned (OpenSpec.ofChange fnPiecesSpec)

/-- ITS FALSE NEIGHBOUR: 'it returns false'. Refute it at one input. -/
def fnPiecesWrong : ChangeSpec := { name := "fnPieces", fn := fun _ => fun
  | [d] => { results := [.lit (.bool false)], args := [d] }
  | _ => none }
def FnPiecesWrongFalsely : Prop := fnPiecesRow.holds Try.pinned (OpenSpec.ofChange fnPiecesWrong)

/-- 'laws.FnExactPieces': WHATEVER THE INPUT: true; the input reads as it did. -/
def fnExactPiecesSpec : ChangeSpec := { name := "fnExactPieces", fn := fun _ => fun
  | [d] => { results := [.lit (.bool true)], args := [d] }
  | _ => none }
def fnExactPiecesRow : OpenClaim := { program := "ytilccgeldnlgnaa", sum := "ffacc4714bf1f482583bd5ba2d4c842e9939815a60b5f581dcd0da2be9ca31b8", func := "loop.example/g00890/laws.FnExactPieces", spec := "fnExactPieces", unfollowed := true, recurses := true, apart := false }
def FnExactPiecesSaid : Prop := fnExactPiecesRow.holds Try.pinned (OpenSpec.ofChange fnExactPiecesSpec)

/-- ITS FALSE NEIGHBOUR: 'it returns false'. Refute it at one input. -/
def fnExactPiecesWrong : ChangeSpec := { name := "fnExactPieces", fn := fun _ => fun
  | [d] => { results := [.lit (.bool false)], args := [d] }
  | _ => none }
def FnExactPiecesWrongFalsely : Prop := fnExactPiecesRow.holds Try.pinned (OpenSpec.ofChange fnExactPiecesWrong)

/-- 'laws.FnExactDeviceCount': WHATEVER THE INPUT: true; the input reads as it did. -/
def fnExactDeviceCountSpec : ChangeSpec := { name := "fnExactDeviceCount", fn := fun _ => fun
  | [d1, d2] => { results := [.lit (.bool true)], args := [d1, d2] }
  | _ => none }
def fnExactDeviceCountRow : OpenClaim := { program := "ytilccgeldnlgnaa", sum := "ffacc4714bf1f482583bd5ba2d4c842e9939815a60b5f581dcd0da2be9ca31b8", func := "loop.example/g00890/laws.FnExactDeviceCount", spec := "fnExactDeviceCount", unfollowed := true, recurses := true, apart := false }
def FnExactDeviceCountSaid : Prop := fnExactDeviceCountRow.holds Try.pinned (OpenSpec.ofChange fnExactDeviceCountSpec)

/-- ITS FALSE NEIGHBOUR: 'it returns false'. Refute it at one input. -/
def fnExactDeviceCountWrong : ChangeSpec := { name := "fnExactDeviceCount", fn := fun _ => fun
  | [d1, d2] => { results := [.lit (.bool false)], args := [d1, d2] }
  | _ => none }
def FnExactDeviceCountWrongFalsely : Prop := fnExactDeviceCountRow.holds Try.pinned (OpenSpec.ofChange fnExactDeviceCountWrong)

/-- 'laws.FnExactChannelKind': WHATEVER THE INPUT: true; the input reads as it did. -/
def fnExactChannelKindSpec : ChangeSpec := { name := "fnExactChannelKind", fn := fun _ => fun
  | [d1, d2] => { results := [.lit (.bool true)], args := [d1, d2] }
  | _ => none }
def fnExactChannelKindRow : OpenClaim := { program := "ytilccgeldnlgnaa", sum := "ffacc4714bf1f482583bd5ba2d4c842e9939815a60b5f581dcd0da2be9ca31b8", func := "loop.example/g00890/laws.FnExactChannelKind", spec := "fnExactChannelKind", unfollowed := true, recurses := true, apart := false }
def FnExactChannelKindSaid : Prop := fnExactChannelKindRow.holds Try.pinned (OpenSpec.ofChange fnExactChannelKindSpec)

/-- ITS FALSE NEIGHBOUR: 'it returns false'. Refute it at one input. -/
def fnExactChannelKindWrong : ChangeSpec := { name := "fnExactChannelKind", fn := fun _ => fun
  | [d1, d2] => { results := [.lit (.bool false)], args := [d1, d2] }
  | _ => none }
def FnExactChannelKindWrongFalsely : Prop := fnExactChannelKindRow.holds Try.pinned (OpenSpec.ofChange fnExactChannelKindWrong)

/-- 'laws.FnExactNetAt': WHATEVER THE INPUT: true; the input reads as it did. -/
def fnExactNetAtSpec : ChangeSpec := { name := "fnExactNetAt", fn := fun _ => fun
  | [d1, d2, d3] => { results := [.lit (.bool true)], args := [d1, d2, d3] }
  | _ => none }
def fnExactNetAtRow : OpenClaim := { program := "ytilccgeldnlgnaa", sum := "ffacc4714bf1f482583bd5ba2d4c842e9939815a60b5f581dcd0da2be9ca31b8", func := "loop.example/g00890/laws.FnExactNetAt", spec := "fnExactNetAt", unfollowed := true, recurses := true, apart := false }
def FnExactNetAtSaid : Prop := fnExactNetAtRow.holds Try.pinned (OpenSpec.ofChange fnExactNetAtSpec)

/-- ITS FALSE NEIGHBOUR: 'it returns false'. Refute it at one input. -/
def fnExactNetAtWrong : ChangeSpec := { name := "fnExactNetAt", fn := fun _ => fun
  | [d1, d2, d3] => { results := [.lit (.bool false)], args := [d1, d2, d3] }
  | _ => none }
def FnExactNetAtWrongFalsely : Prop := fnExactNetAtRow.holds Try.pinned (OpenSpec.ofChange fnExactNetAtWrong)

/-- 'laws.FnChannelAreas': WHATEVER THE INPUT: true; the input reads as it did. -/
def fnChannelAreasSpec : ChangeSpec := { name := "fnChannelAreas", fn := fun _ => fun
  | [d] => { results := [.lit (.bool true)], args := [d] }
  | _ => none }
def fnChannelAreasRow : OpenClaim := { program := "ytilccgeldnlgnaa", sum := "ffacc4714bf1f482583bd5ba2d4c842e9939815a60b5f581dcd0da2be9ca31b8", func := "loop.example/g00890/laws.FnChannelAreas", spec := "fnChannelAreas", unfollowed := true, recurses := true, apart := false }
def FnChannelAreasSaid : Prop := fnChannelAreasRow.holds Try.pinned (OpenSpec.ofChange fnChannelAreasSpec)

/-- ITS FALSE NEIGHBOUR: 'it returns false'. Refute it at one input. -/
def fnChannelAreasWrong : ChangeSpec := { name := "fnChannelAreas", fn := fun _ => fun
  | [d] => { results := [.lit (.bool false)], args := [d] }
  | _ => none }
def FnChannelAreasWrongFalsely : Prop := fnChannelAreasRow.holds Try.pinned (OpenSpec.ofChange fnChannelAreasWrong)

/-- 'laws.FnExactChannelSize': WHATEVER THE INPUT: true; the input reads as it did. -/
def fnExactChannelSizeSpec : ChangeSpec := { name := "fnExactChannelSize", fn := fun _ => fun
  | [d1, d2] => { results := [.lit (.bool true)], args := [d1, d2] }
  | _ => none }
def fnExactChannelSizeRow : OpenClaim := { program := "ytilccgeldnlgnaa", sum := "ffacc4714bf1f482583bd5ba2d4c842e9939815a60b5f581dcd0da2be9ca31b8", func := "loop.example/g00890/laws.FnExactChannelSize", spec := "fnExactChannelSize", unfollowed := true, recurses := true, apart := false }
def FnExactChannelSizeSaid : Prop := fnExactChannelSizeRow.holds Try.pinned (OpenSpec.ofChange fnExactChannelSizeSpec)

/-- ITS FALSE NEIGHBOUR: 'it returns false'. Refute it at one input. -/
def fnExactChannelSizeWrong : ChangeSpec := { name := "fnExactChannelSize", fn := fun _ => fun
  | [d1, d2] => { results := [.lit (.bool false)], args := [d1, d2] }
  | _ => none }
def FnExactChannelSizeWrongFalsely : Prop := fnExactChannelSizeRow.holds Try.pinned (OpenSpec.ofChange fnExactChannelSizeWrong)

/- THE SECOND FORM. 'bulk': how many values and letters a reading holds, each counted each time it is reached (what is shared counts as often as it is met; a slice's spare places count too). A statement '..UptoSaid' is the law's where the arguments, and the package variables that the reading takes, are together of bulk at most 1048576: NARROWER than '..Said'. Prove '..Said' where nothing that the law and all that it calls make is longer than what came in: it says more and counts as full. Else prove '..UptoSaid'. A law counts once. -/
mutual
def uptoBulk {H : Type} : DataW H → Nat
  | .lit (.string bytes) => bytes.length + 1
  | .lit _ => 1
  | .nil => 1
  | .ptr d => uptoBulk d + 1
  | .slice elems spare => uptoBulkAll elems + uptoBulkAll spare + 1
  | .agg parts => uptoBulkAll parts + 1
  | .iface _ d => uptoBulk d + 1
  | .map entries => uptoBulkEntries entries + 1
  | .held _ => 1
def uptoBulkAll {H : Type} : List (DataW H) → Nat
  | [] => 0
  | d :: r => uptoBulk d + uptoBulkAll r
def uptoBulkEntries {H : Type} : List (Lit × DataW H) → Nat
  | [] => 0
  | x :: r => uptoBulkEntry x + uptoBulkEntries r
def uptoBulkEntry {H : Type} : Lit × DataW H → Nat
  | (.string bytes, d) => bytes.length + uptoBulk d + 1
  | (_, d) => uptoBulk d + 1
 end
def uptoSmall : (H : Type) → List (DataW H) → Bool := fun _ ds => decide (uptoBulkAll ds ≤ 1048576)
def OpenSpec.upto (s : _root_.Go.ChangeSpec) : _root_.Go.OpenSpec := { _root_.Go.OpenSpec.ofChange s with cond := some uptoSmall }

/-- 'laws.FnExactChangedArea', WHERE WHAT IT READS IS OF BULK AT MOST 1048576: true; the input reads as it did. -/
def fnExactChangedAreaUptoRow : OpenClaim := { program := "ytilccgeldnlgnaa", sum := "ffacc4714bf1f482583bd5ba2d4c842e9939815a60b5f581dcd0da2be9ca31b8", func := "loop.example/g00890/laws.FnExactChangedArea", spec := "fnExactChangedArea", unfollowed := true, recurses := true, apart := false, narrowed := true }
def FnExactChangedAreaUptoSaid : Prop := fnExactChangedAreaUptoRow.holds Try.pinned (OpenSpec.upto fnExactChangedAreaSpec)

/-- 'laws.FnSignature', WHERE WHAT IT READS IS OF BULK AT MOST 1048576: true; the input reads as it did. -/
def fnSignatureUptoRow : OpenClaim := { program := "ytilccgeldnlgnaa", sum := "ffacc4714bf1f482583bd5ba2d4c842e9939815a60b5f581dcd0da2be9ca31b8", func := "loop.example/g00890/laws.FnSignature", spec := "fnSignature", apart := false, narrowed := true }
def FnSignatureUptoSaid : Prop := fnSignatureUptoRow.holds Try.pinned (OpenSpec.upto fnSignatureSpec)

/-- 'laws.FnChangedArea', WHERE WHAT IT READS IS OF BULK AT MOST 1048576: true; the input reads as it did. -/
def fnChangedAreaUptoRow : OpenClaim := { program := "ytilccgeldnlgnaa", sum := "ffacc4714bf1f482583bd5ba2d4c842e9939815a60b5f581dcd0da2be9ca31b8", func := "loop.example/g00890/laws.FnChangedArea", spec := "fnChangedArea", unfollowed := true, recurses := true, apart := false, narrowed := true }
def FnChangedAreaUptoSaid : Prop := fnChangedAreaUptoRow.holds Try.pinned (OpenSpec.upto fnChangedAreaSpec)

/-- 'laws.FnExactRecheckArea', WHERE WHAT IT READS IS OF BULK AT MOST 1048576: true; the input reads as it did. -/
def fnExactRecheckAreaUptoRow : OpenClaim := { program := "ytilccgeldnlgnaa", sum := "ffacc4714bf1f482583bd5ba2d4c842e9939815a60b5f581dcd0da2be9ca31b8", func := "loop.example/g00890/laws.FnExactRecheckArea", spec := "fnExactRecheckArea", unfollowed := true, recurses := true, apart := false, narrowed := true }
def FnExactRecheckAreaUptoSaid : Prop := fnExactRecheckAreaUptoRow.holds Try.pinned (OpenSpec.upto fnExactRecheckAreaSpec)

/-- 'laws.FnJoined', WHERE WHAT IT READS IS OF BULK AT MOST 1048576: true; the input reads as it did. -/
def fnJoinedUptoRow : OpenClaim := { program := "ytilccgeldnlgnaa", sum := "ffacc4714bf1f482583bd5ba2d4c842e9939815a60b5f581dcd0da2be9ca31b8", func := "loop.example/g00890/laws.FnJoined", spec := "fnJoined", unfollowed := true, recurses := true, apart := false, narrowed := true }
def FnJoinedUptoSaid : Prop := fnJoinedUptoRow.holds Try.pinned (OpenSpec.upto fnJoinedSpec)

/-- 'laws.FnPieces', WHERE WHAT IT READS IS OF BULK AT MOST 1048576: true; the input reads as it did. -/
def fnPiecesUptoRow : OpenClaim := { program := "ytilccgeldnlgnaa", sum := "ffacc4714bf1f482583bd5ba2d4c842e9939815a60b5f581dcd0da2be9ca31b8", func := "loop.example/g00890/laws.FnPieces", spec := "fnPieces", unfollowed := true, recurses := true, apart := false, narrowed := true }
def FnPiecesUptoSaid : Prop := fnPiecesUptoRow.holds Try.pinned (OpenSpec.upto fnPiecesSpec)

/-- 'laws.FnExactPieces', WHERE WHAT IT READS IS OF BULK AT MOST 1048576: true; the input reads as it did. -/
def fnExactPiecesUptoRow : OpenClaim := { program := "ytilccgeldnlgnaa", sum := "ffacc4714bf1f482583bd5ba2d4c842e9939815a60b5f581dcd0da2be9ca31b8", func := "loop.example/g00890/laws.FnExactPieces", spec := "fnExactPieces", unfollowed := true, recurses := true, apart := false, narrowed := true }
def FnExactPiecesUptoSaid : Prop := fnExactPiecesUptoRow.holds Try.pinned (OpenSpec.upto fnExactPiecesSpec)

/-- 'laws.FnExactDeviceCount', WHERE WHAT IT READS IS OF BULK AT MOST 1048576: true; the input reads as it did. -/
def fnExactDeviceCountUptoRow : OpenClaim := { program := "ytilccgeldnlgnaa", sum := "ffacc4714bf1f482583bd5ba2d4c842e9939815a60b5f581dcd0da2be9ca31b8", func := "loop.example/g00890/laws.FnExactDeviceCount", spec := "fnExactDeviceCount", unfollowed := true, recurses := true, apart := false, narrowed := true }
def FnExactDeviceCountUptoSaid : Prop := fnExactDeviceCountUptoRow.holds Try.pinned (OpenSpec.upto fnExactDeviceCountSpec)

/-- 'laws.FnExactChannelKind', WHERE WHAT IT READS IS OF BULK AT MOST 1048576: true; the input reads as it did. -/
def fnExactChannelKindUptoRow : OpenClaim := { program := "ytilccgeldnlgnaa", sum := "ffacc4714bf1f482583bd5ba2d4c842e9939815a60b5f581dcd0da2be9ca31b8", func := "loop.example/g00890/laws.FnExactChannelKind", spec := "fnExactChannelKind", unfollowed := true, recurses := true, apart := false, narrowed := true }
def FnExactChannelKindUptoSaid : Prop := fnExactChannelKindUptoRow.holds Try.pinned (OpenSpec.upto fnExactChannelKindSpec)

/-- 'laws.FnExactNetAt', WHERE WHAT IT READS IS OF BULK AT MOST 1048576: true; the input reads as it did. -/
def fnExactNetAtUptoRow : OpenClaim := { program := "ytilccgeldnlgnaa", sum := "ffacc4714bf1f482583bd5ba2d4c842e9939815a60b5f581dcd0da2be9ca31b8", func := "loop.example/g00890/laws.FnExactNetAt", spec := "fnExactNetAt", unfollowed := true, recurses := true, apart := false, narrowed := true }
def FnExactNetAtUptoSaid : Prop := fnExactNetAtUptoRow.holds Try.pinned (OpenSpec.upto fnExactNetAtSpec)

/-- 'laws.FnChannelAreas', WHERE WHAT IT READS IS OF BULK AT MOST 1048576: true; the input reads as it did. -/
def fnChannelAreasUptoRow : OpenClaim := { program := "ytilccgeldnlgnaa", sum := "ffacc4714bf1f482583bd5ba2d4c842e9939815a60b5f581dcd0da2be9ca31b8", func := "loop.example/g00890/laws.FnChannelAreas", spec := "fnChannelAreas", unfollowed := true, recurses := true, apart := false, narrowed := true }
def FnChannelAreasUptoSaid : Prop := fnChannelAreasUptoRow.holds Try.pinned (OpenSpec.upto fnChannelAreasSpec)

/-- 'laws.FnExactChannelSize', WHERE WHAT IT READS IS OF BULK AT MOST 1048576: true; the input reads as it did. -/
def fnExactChannelSizeUptoRow : OpenClaim := { program := "ytilccgeldnlgnaa", sum := "ffacc4714bf1f482583bd5ba2d4c842e9939815a60b5f581dcd0da2be9ca31b8", func := "loop.example/g00890/laws.FnExactChannelSize", spec := "fnExactChannelSize", unfollowed := true, recurses := true, apart := false, narrowed := true }
def FnExactChannelSizeUptoSaid : Prop := fnExactChannelSizeUptoRow.holds Try.pinned (OpenSpec.upto fnExactChannelSizeSpec)

end Rows
end Go.Proofs.Ytilccgeldnlgnaa
