/-
  DERIVED. GIVEN WITH THE SEED: THE CARDS: each row of YthhjapiggekjbaaDoorRows.lean that lists a variable, with what it lists TIED to the program's text (the seventh form; the later family's looks); each row that meets fmt, with fmt's text TOLD by the authors' own Lean function (tested against real Go, not proved from fmt's source: count such statements apart). THE CARD IS WHAT COUNTS. Prove the row's statement (the work); the ties are given (YthhjapiggekjbaaDoorTie.lean); close each card by the builder's one call (the guide's Derived/Test/ToyasCard.lean, 'card_holds'). Laid BY PROGRAM, IN A SANDBOX (cutbox-door.mjs). By AI agents, Wed Nov 11 2026. No macro, syntax, notation, axiom, sorry.
-/
import Derived.Test.YthhjapiggekjbaaDoorRows
import GoSem.ClaimSeven
namespace Go.Proofs.YthhjapiggekjbaaDoor
namespace Rows

/-- THE TIED CARD OF 'laws.FnExactFormatWaivers'. -/
def fnExactFormatWaiversCard : Claim7 := { stood := { row := fnExactFormatWaiversRow, standIns := [], harness := (true, "7b64f306d9883087db57e550e367e0daebe0e4a5d298b4d55d57fb14867637b6"), looks := true }, kinds := [], alts := [], laidByText := true, laidKinds := [.data, .data, .data], laidTests := true, laidLooks := .later }
def FnExactFormatWaiversCardSaid : Prop := Claim7.holds Tryd.pinned (.plain (OpenSpec.ofChange fnExactFormatWaiversSpec)) fnExactFormatWaiversCard

/-- THE TIED CARD OF 'laws.FnExactParseWaivers'. -/
def fnExactParseWaiversCard : Claim7 := { stood := { row := fnExactParseWaiversRow, standIns := [], harness := (true, "7b64f306d9883087db57e550e367e0daebe0e4a5d298b4d55d57fb14867637b6"), looks := true }, kinds := [], alts := [], laidByText := true, laidKinds := [.data, .data, .data, .sentinel, .sentinel], laidTests := true, laidLooks := .later }
def FnExactParseWaiversCardSaid : Prop := Claim7.holds Tryd.pinned (.plain (OpenSpec.ofChange fnExactParseWaiversSpec)) fnExactParseWaiversCard

/-- THE TIED CARD OF 'laws.FnWaiverText'. -/
def fnWaiverTextCard : Claim7 := { stood := { row := fnWaiverTextRow, standIns := [], harness := (true, "7b64f306d9883087db57e550e367e0daebe0e4a5d298b4d55d57fb14867637b6"), looks := true }, kinds := [], alts := [], laidByText := true, laidKinds := [.data, .data, .data, .sentinel, .sentinel], laidTests := true, laidLooks := .later }
def FnWaiverTextCardSaid : Prop := Claim7.holds Tryd.pinned (.plain (OpenSpec.ofChange fnWaiverTextSpec)) fnWaiverTextCard

/-- THE SECOND FORM's CARD OF 'laws.FnExactFormatWaivers'. -/
def fnExactFormatWaiversUptoCard : Claim7 := { stood := { row := fnExactFormatWaiversUptoRow, standIns := [], harness := (true, "7b64f306d9883087db57e550e367e0daebe0e4a5d298b4d55d57fb14867637b6"), looks := true }, kinds := [], alts := [], laidByText := true, laidKinds := [.data, .data, .data], laidTests := true, laidLooks := .later }
def FnExactFormatWaiversUptoCardSaid : Prop := Claim7.holds Tryd.pinned (.plain (OpenSpec.upto fnExactFormatWaiversSpec)) fnExactFormatWaiversUptoCard

/-- THE SECOND FORM's CARD OF 'laws.FnExactParseWaivers'. -/
def fnExactParseWaiversUptoCard : Claim7 := { stood := { row := fnExactParseWaiversUptoRow, standIns := [], harness := (true, "7b64f306d9883087db57e550e367e0daebe0e4a5d298b4d55d57fb14867637b6"), looks := true }, kinds := [], alts := [], laidByText := true, laidKinds := [.data, .data, .data, .sentinel, .sentinel], laidTests := true, laidLooks := .later }
def FnExactParseWaiversUptoCardSaid : Prop := Claim7.holds Tryd.pinned (.plain (OpenSpec.upto fnExactParseWaiversSpec)) fnExactParseWaiversUptoCard

/-- THE SECOND FORM's CARD OF 'laws.FnWaiverText'. -/
def fnWaiverTextUptoCard : Claim7 := { stood := { row := fnWaiverTextUptoRow, standIns := [], harness := (true, "7b64f306d9883087db57e550e367e0daebe0e4a5d298b4d55d57fb14867637b6"), looks := true }, kinds := [], alts := [], laidByText := true, laidKinds := [.data, .data, .data, .sentinel, .sentinel], laidTests := true, laidLooks := .later }
def FnWaiverTextUptoCardSaid : Prop := Claim7.holds Tryd.pinned (.plain (OpenSpec.upto fnWaiverTextSpec)) fnWaiverTextUptoCard
end Rows
end Go.Proofs.YthhjapiggekjbaaDoor
