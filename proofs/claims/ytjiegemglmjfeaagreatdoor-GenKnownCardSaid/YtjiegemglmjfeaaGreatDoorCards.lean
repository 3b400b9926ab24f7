/-
  DERIVED. GIVEN WITH THE SEED: THE CARDS: each row of YtjiegemglmjfeaaGreatDoorRows.lean that lists a variable, with what it lists TIED to the program's text (the seventh form; the later family's looks); each row that meets fmt, with fmt's text TOLD by the authors' own Lean function (tested against real Go, not proved from fmt's source: count such statements apart). THE CARD IS WHAT COUNTS. Prove the row's statement (the work); the ties are given (YtjiegemglmjfeaaGreatDoorTie.lean); close each card by the builder's one call (the guide's Derived/Test/ToyasCard.lean, 'card_holds'). Laid BY PROGRAM, IN A SANDBOX (cutbox-door.mjs). By AI agents, Wed Nov 11 2026. No macro, syntax, notation, axiom, sorry.
-/
import Derived.Test.YtjiegemglmjfeaaGreatDoorRows
import GoSem.ClaimSeven
namespace Go.Proofs.YtjiegemglmjfeaaGreatDoor
namespace Rows

/-- THE TIED CARD OF 'ceilinglaw24.GenKnown'. -/
def genKnownCard : Claim7 := { stood := { row := genKnownRow, standIns := [], harness := (true, "7a2d86044fe798564897c4d7ad346dde155e0ba93c18fe2f7f519a1a0604ada8"), looks := true }, kinds := [], alts := [], laidByText := true, laidKinds := [.listed, .data, .widerDeep], laidTests := true, laidLooks := .later }
def GenKnownCardSaid : Prop := Claim7.holds Tryz.pinned (.plain (OpenSpec.ofChange genKnownSpec)) genKnownCard

/-- THE SECOND FORM's CARD OF 'ceilinglaw24.GenKnown'. -/
def genKnownUptoCard : Claim7 := { stood := { row := genKnownUptoRow, standIns := [], harness := (true, "7a2d86044fe798564897c4d7ad346dde155e0ba93c18fe2f7f519a1a0604ada8"), looks := true }, kinds := [], alts := [], laidByText := true, laidKinds := [.listed, .data, .widerDeep], laidTests := true, laidLooks := .later }
def GenKnownUptoCardSaid : Prop := Claim7.holds Tryz.pinned (.plain (OpenSpec.upto genKnownSpec)) genKnownUptoCard
end Rows
end Go.Proofs.YtjiegemglmjfeaaGreatDoor
