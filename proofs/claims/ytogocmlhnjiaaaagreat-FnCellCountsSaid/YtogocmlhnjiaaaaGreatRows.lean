/-
  No cell of these rows narrows 'for every input' (looked for: loops, veiled, ifaces, maps, wideKeys, modest, calm, conditions, laid).
  DERIVED. THE GIVEN ROWS OF THIS SEAT. 3 by the template 'for every input the law returns true; each argument reads behind the call as it read before'; 0 by the template 'total and deterministic' (their statements: YtogocmlhnjiaaaaGreatTotals.lean).
  GIVEN WITH THE SEED: the statements are not yours to turn. If you find one false, say at which input.
  Laid BY PROGRAM, IN A SANDBOX (cutbox-rows.mjs): the forced cells as the released guide's own fill.sh prints them over the translation d3fe7606d9713a82… (all of the seat's roots in one cut). By AI agents, Wed Nov 11 2026. No macro, syntax, notation, axiom, sorry.
-/
import Derived.Test.YtogocmlhnjiaaaaGreatChecked
import GoSem.Claim
import GoSem.ClaimJoined
import GoSem.ClaimMapViews
import Derived.JoinedTies
import Derived.KernelRfl
namespace Go.Proofs.YtogocmlhnjiaaaaGreat
/- THE CELL 'sum', in the pinned program and in every row, IS THE sha256 OF THE DUMP (.gsa) THAT YtogocmlhnjiaaaaGreatProg.lean LOADS. Nothing in Lean hashes anything: it is a label: what it is worth is what the hold of that sum in a sandbox is worth. -/
noncomputable def Tryz.pinned : Pinned := { name := "ytogocmlhnjiaaaagreat", sum := "d3fe7606d9713a82e912c02a9bd2d2b9db19fb5e9872bbfa9a6d6ea2e476fd12", checked := Tryz.checked }
namespace Rows
def none {H : Type} : Left H := { results := [], args := [] }

/-- 'laws.FnTop': WHATEVER THE INPUT: true; the input reads as it did. -/
def fnTopSpec : ChangeSpec := { name := "fnTop", fn := fun _ => fun
  | [d] => { results := [.lit (.bool true)], args := [d] }
  | _ => none }
def fnTopRow : OpenClaim := { program := "ytogocmlhnjiaaaagreat", sum := "d3fe7606d9713a82e912c02a9bd2d2b9db19fb5e9872bbfa9a6d6ea2e476fd12", func := "loop.example/g00890/laws.FnTop", spec := "fnTop", unfollowed := true, recurses := true, apart := false }
def FnTopSaid : Prop := fnTopRow.holds Tryz.pinned (OpenSpec.ofChange fnTopSpec)

/-- ITS FALSE NEIGHBOUR: 'it returns false'. Refute it at one input. -/
def fnTopWrong : ChangeSpec := { name := "fnTop", fn := fun _ => fun
  | [d] => { results := [.lit (.bool false)], args := [d] }
  | _ => none }
def FnTopWrongFalsely : Prop := fnTopRow.holds Tryz.pinned (OpenSpec.ofChange fnTopWrong)

/-- 'laws.FnContextFree': WHATEVER THE INPUT: true; the input reads as it did. -/
def fnContextFreeSpec : ChangeSpec := { name := "fnContextFree", fn := fun _ => fun
  | [d] => { results := [.lit (.bool true)], args := [d] }
  | _ => none }
def fnContextFreeRow : OpenClaim := { program := "ytogocmlhnjiaaaagreat", sum := "d3fe7606d9713a82e912c02a9bd2d2b9db19fb5e9872bbfa9a6d6ea2e476fd12", func := "loop.example/g00890/laws.FnContextFree", spec := "fnContextFree", unfollowed := true, recurses := true, apart := false }
def FnContextFreeSaid : Prop := fnContextFreeRow.holds Tryz.pinned (OpenSpec.ofChange fnContextFreeSpec)

/-- ITS FALSE NEIGHBOUR: 'it returns false'. Refute it at one input. -/
def fnContextFreeWrong : ChangeSpec := { name := "fnContextFree", fn := fun _ => fun
  | [d] => { results := [.lit (.bool false)], args := [d] }
  | _ => none }
def FnContextFreeWrongFalsely : Prop := fnContextFreeRow.holds Tryz.pinned (OpenSpec.ofChange fnContextFreeWrong)

/-- 'laws.FnCellCounts': WHATEVER THE INPUT: true; the input reads as it did. -/
def fnCellCountsSpec : ChangeSpec := { name := "fnCellCounts", fn := fun _ => fun
  | [d] => { results := [.lit (.bool true)], args := [d] }
  | _ => none }
def fnCellCountsRow : OpenClaim := { program := "ytogocmlhnjiaaaagreat", sum := "d3fe7606d9713a82e912c02a9bd2d2b9db19fb5e9872bbfa9a6d6ea2e476fd12", func := "loop.example/g00890/laws.FnCellCounts", spec := "fnCellCounts", unfollowed := true, recurses := true, apart := false }
def FnCellCountsSaid : Prop := fnCellCountsRow.holds Tryz.pinned (OpenSpec.ofChange fnCellCountsSpec)

/-- ITS FALSE NEIGHBOUR: 'it returns false'. Refute it at one input. -/
def fnCellCountsWrong : ChangeSpec := { name := "fnCellCounts", fn := fun _ => fun
  | [d] => { results := [.lit (.bool false)], args := [d] }
  | _ => none }
def FnCellCountsWrongFalsely : Prop := fnCellCountsRow.holds Tryz.pinned (OpenSpec.ofChange fnCellCountsWrong)

/- THE SECOND FORM. 'bulk': how many values and letters a reading holds, each counted each time it is reached (what is shared counts as often as it is met; a slice's spare places count too). A statement '..UptoSaid' is the law's where the arguments, and the package variables that the reading takes, are together of bulk at most 1048576: NARROWER than '..Said'. Prove '..Said' where nothing that the law and all that it calls make is longer than what came in: it says more and counts as full. Else prove '..UptoSaid'. A law counts once. -/
mutual
def uptoBulk {H : Type} : DataW H → Nat
  | .lit (.string bytes) => bytes.length + 1
  | .lit _ => 1
  | .nil => 1
  | .ptr d => uptoBulk d + 1
  | .slice elems spare => uptoBulkAll elems + uptoBulkAll spare + 1
  | .agg parts => uptoBulkAll parts + 1
  | .iface _ d => uptoBulk d + 1
  | .map entries => uptoBulkEntries entries + 1
  | .held _ => 1
def uptoBulkAll {H : Type} : List (DataW H) → Nat
  | [] => 0
  | d :: r => uptoBulk d + uptoBulkAll r
def uptoBulkEntries {H : Type} : List (Lit × DataW H) → Nat
  | [] => 0
  | x :: r => uptoBulkEntry x + uptoBulkEntries r
def uptoBulkEntry {H : Type} : Lit × DataW H → Nat
  | (.string bytes, d) => bytes.length + uptoBulk d + 1
  | (_, d) => uptoBulk d + 1
 end
def uptoSmall : (H : Type) → List (DataW H) → Bool := fun _ ds => decide (uptoBulkAll ds ≤ 1048576)
def OpenSpec.upto (s : _root_.Go.ChangeSpec) : _root_.Go.OpenSpec := { _root_.Go.OpenSpec.ofChange s with cond := some uptoSmall }

/-- 'laws.FnTop', WHERE WHAT IT READS IS OF BULK AT MOST 1048576: true; the input reads as it did. -/
def fnTopUptoRow : OpenClaim := { program := "ytogocmlhnjiaaaagreat", sum := "d3fe7606d9713a82e912c02a9bd2d2b9db19fb5e9872bbfa9a6d6ea2e476fd12", func := "loop.example/g00890/laws.FnTop", spec := "fnTop", unfollowed := true, recurses := true, apart := false, narrowed := true }
def FnTopUptoSaid : Prop := fnTopUptoRow.holds Tryz.pinned (OpenSpec.upto fnTopSpec)

/-- 'laws.FnContextFree', WHERE WHAT IT READS IS OF BULK AT MOST 1048576: true; the input reads as it did. -/
def fnContextFreeUptoRow : OpenClaim := { program := "ytogocmlhnjiaaaagreat", sum := "d3fe7606d9713a82e912c02a9bd2d2b9db19fb5e9872bbfa9a6d6ea2e476fd12", func := "loop.example/g00890/laws.FnContextFree", spec := "fnContextFree", unfollowed := true, recurses := true, apart := false, narrowed := true }
def FnContextFreeUptoSaid : Prop := fnContextFreeUptoRow.holds Tryz.pinned (OpenSpec.upto fnContextFreeSpec)

/-- 'laws.FnCellCounts', WHERE WHAT IT READS IS OF BULK AT MOST 1048576: true; the input reads as it did. -/
def fnCellCountsUptoRow : OpenClaim := { program := "ytogocmlhnjiaaaagreat", sum := "d3fe7606d9713a82e912c02a9bd2d2b9db19fb5e9872bbfa9a6d6ea2e476fd12", func := "loop.example/g00890/laws.FnCellCounts", spec := "fnCellCounts", unfollowed := true, recurses := true, apart := false, narrowed := true }
def FnCellCountsUptoSaid : Prop := fnCellCountsUptoRow.holds Tryz.pinned (OpenSpec.upto fnCellCountsSpec)

end Rows
end Go.Proofs.YtogocmlhnjiaaaaGreat
