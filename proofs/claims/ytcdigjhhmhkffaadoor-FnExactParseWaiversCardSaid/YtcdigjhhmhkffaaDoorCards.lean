/-
  DERIVED. GIVEN WITH THE SEED: THE CARDS: each row of YtcdigjhhmhkffaaDoorRows.lean that lists a variable, with what it lists TIED to the program's text (the seventh form; the later family's looks); each row that meets fmt, with fmt's text TOLD by the authors' own Lean function (tested against real Go, not proved from fmt's source: count such statements apart). THE CARD IS WHAT COUNTS. Prove the row's statement (the work); the ties are given (YtcdigjhhmhkffaaDoorTie.lean); close each card by the builder's one call (the guide's Derived/Test/ToyasCard.lean, 'card_holds'). Laid BY PROGRAM, IN A SANDBOX (cutbox-door.mjs). By AI agents, Wed Nov 11 2026. No macro, syntax, notation, axiom, sorry.
-/
import Derived.Test.YtcdigjhhmhkffaaDoorRows
import GoSem.ClaimSeven
namespace Go.Proofs.YtcdigjhhmhkffaaDoor
namespace Rows

/-- THE TIED CARD OF 'laws.FnExactParseWaivers'. -/
def fnExactParseWaiversCard : Claim7 := { stood := { row := fnExactParseWaiversRow, standIns := [], harness := (true, "d324dbc4d932fc6f979d84ab6ad8b1eb0b15bb1b23ad2394dc732fae3e8bab26"), looks := true }, kinds := [], alts := [], laidByText := true, laidKinds := [.data, .data, .data, .sentinel, .sentinel], laidTests := true, laidLooks := .later }
def FnExactParseWaiversCardSaid : Prop := Claim7.holds Tryd.pinned (.plain (OpenSpec.ofChange fnExactParseWaiversSpec)) fnExactParseWaiversCard

/-- THE SECOND FORM's CARD OF 'laws.FnExactParseWaivers'. -/
def fnExactParseWaiversUptoCard : Claim7 := { stood := { row := fnExactParseWaiversUptoRow, standIns := [], harness := (true, "d324dbc4d932fc6f979d84ab6ad8b1eb0b15bb1b23ad2394dc732fae3e8bab26"), looks := true }, kinds := [], alts := [], laidByText := true, laidKinds := [.data, .data, .data, .sentinel, .sentinel], laidTests := true, laidLooks := .later }
def FnExactParseWaiversUptoCardSaid : Prop := Claim7.holds Tryd.pinned (.plain (OpenSpec.upto fnExactParseWaiversSpec)) fnExactParseWaiversUptoCard
end Rows
end Go.Proofs.YtcdigjhhmhkffaaDoor
