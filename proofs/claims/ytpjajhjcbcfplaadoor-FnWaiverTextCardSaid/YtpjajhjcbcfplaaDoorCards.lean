/-
  DERIVED. GIVEN WITH THE SEED: THE CARDS: each row of YtpjajhjcbcfplaaDoorRows.lean that lists a variable, with what it lists TIED to the program's text (the seventh form; the later family's looks); each row that meets fmt, with fmt's text TOLD by the authors' own Lean function (tested against real Go, not proved from fmt's source: count such statements apart). THE CARD IS WHAT COUNTS. Prove the row's statement (the work); the ties are given (YtpjajhjcbcfplaaDoorTie.lean); close each card by the builder's one call (the guide's Derived/Test/ToyasCard.lean, 'card_holds'). Laid BY PROGRAM, IN A SANDBOX (cutbox-door.mjs). By AI agents, Wed Nov 11 2026. No macro, syntax, notation, axiom, sorry.
-/
import Derived.Test.YtpjajhjcbcfplaaDoorRows
import GoSem.ClaimSeven
namespace Go.Proofs.YtpjajhjcbcfplaaDoor
namespace Rows

/-- THE TIED CARD OF 'laws.FnWaiverText'. -/
def fnWaiverTextCard : Claim7 := { stood := { row := fnWaiverTextRow, standIns := [], harness := (true, "9c1fc2077e215cb2770ab3ec9b5903eab956e1e6d6ddd27808d339f6c9b8448c"), looks := true }, kinds := [], alts := [], laidByText := true, laidKinds := [.data, .data, .data, .sentinel, .sentinel], laidTests := true, laidLooks := .later }
def FnWaiverTextCardSaid : Prop := Claim7.holds Tryd.pinned (.plain (OpenSpec.ofChange fnWaiverTextSpec)) fnWaiverTextCard

/-- THE SECOND FORM's CARD OF 'laws.FnWaiverText'. -/
def fnWaiverTextUptoCard : Claim7 := { stood := { row := fnWaiverTextUptoRow, standIns := [], harness := (true, "9c1fc2077e215cb2770ab3ec9b5903eab956e1e6d6ddd27808d339f6c9b8448c"), looks := true }, kinds := [], alts := [], laidByText := true, laidKinds := [.data, .data, .data, .sentinel, .sentinel], laidTests := true, laidLooks := .later }
def FnWaiverTextUptoCardSaid : Prop := Claim7.holds Tryd.pinned (.plain (OpenSpec.upto fnWaiverTextSpec)) fnWaiverTextUptoCard
end Rows
end Go.Proofs.YtpjajhjcbcfplaaDoor
