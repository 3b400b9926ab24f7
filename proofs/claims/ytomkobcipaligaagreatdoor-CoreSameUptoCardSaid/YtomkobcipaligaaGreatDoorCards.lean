/-
  DERIVED. GIVEN WITH THE SEED: THE CARDS: each row of YtomkobcipaligaaGreatDoorRows.lean that lists a variable, with what it lists TIED to the program's text (the seventh form; the later family's looks); each row that meets fmt, with fmt's text TOLD by the authors' own Lean function (tested against real Go, not proved from fmt's source: count such statements apart). THE CARD IS WHAT COUNTS. Prove the row's statement (the work); the ties are given (YtomkobcipaligaaGreatDoorTie.lean); close each card by the builder's one call (the guide's Derived/Test/ToyasCard.lean, 'card_holds'). Laid BY PROGRAM, IN A SANDBOX (cutbox-door.mjs). By AI agents, Wed Nov 11 2026. No macro, syntax, notation, axiom, sorry.
-/
import Derived.Test.YtomkobcipaligaaGreatDoorRows
import GoSem.ClaimSeven
namespace Go.Proofs.YtomkobcipaligaaGreatDoor
namespace Rows

/-- THE TIED CARD OF 'ceilinglaw16.CoreNulls'. -/
def coreNullsCard : Claim7 := { stood := { row := coreNullsRow, standIns := [], harness := (true, "3ffed9cf8175f730bd08abb64279f0fa7fe092551d37da00ecaef26f96ff39e7"), looks := false }, kinds := [], alts := [], laidByText := true, laidKinds := [.data, .data, .data], laidTests := true, laidLooks := .later }
def CoreNullsCardSaid : Prop := Claim7.holds Tryz.pinned (.plain (OpenSpec.ofChange coreNullsSpec)) coreNullsCard

/-- THE TIED CARD OF 'ceilinglaw16.CoreInner'. -/
def coreInnerCard : Claim7 := { stood := { row := coreInnerRow, standIns := [], harness := (true, "3ffed9cf8175f730bd08abb64279f0fa7fe092551d37da00ecaef26f96ff39e7"), looks := false }, kinds := [], alts := [], laidByText := true, laidKinds := [.data, .data, .data], laidTests := true, laidLooks := .later }
def CoreInnerCardSaid : Prop := Claim7.holds Tryz.pinned (.plain (OpenSpec.ofChange coreInnerSpec)) coreInnerCard

/-- THE TIED CARD OF 'ceilinglaw16.CoreKnown'. -/
def coreKnownCard : Claim7 := { stood := { row := coreKnownRow, standIns := [], harness := (true, "3ffed9cf8175f730bd08abb64279f0fa7fe092551d37da00ecaef26f96ff39e7"), looks := false }, kinds := [], alts := [], laidByText := true, laidKinds := [.data, .data, .data], laidTests := true, laidLooks := .later }
def CoreKnownCardSaid : Prop := Claim7.holds Tryz.pinned (.plain (OpenSpec.ofChange coreKnownSpec)) coreKnownCard

/-- THE TIED CARD OF 'ceilinglaw16.CoreSame'. -/
def coreSameCard : Claim7 := { stood := { row := coreSameRow, standIns := [], harness := (true, "3ffed9cf8175f730bd08abb64279f0fa7fe092551d37da00ecaef26f96ff39e7"), looks := false }, kinds := [], alts := [], laidByText := true, laidKinds := [.data, .data, .data], laidTests := true, laidLooks := .later }
def CoreSameCardSaid : Prop := Claim7.holds Tryz.pinned (.plain (OpenSpec.ofChange coreSameSpec)) coreSameCard

/-- THE SECOND FORM's CARD OF 'ceilinglaw16.CoreNulls'. -/
def coreNullsUptoCard : Claim7 := { stood := { row := coreNullsUptoRow, standIns := [], harness := (true, "3ffed9cf8175f730bd08abb64279f0fa7fe092551d37da00ecaef26f96ff39e7"), looks := false }, kinds := [], alts := [], laidByText := true, laidKinds := [.data, .data, .data], laidTests := true, laidLooks := .later }
def CoreNullsUptoCardSaid : Prop := Claim7.holds Tryz.pinned (.plain (OpenSpec.upto coreNullsSpec)) coreNullsUptoCard

/-- THE SECOND FORM's CARD OF 'ceilinglaw16.CoreInner'. -/
def coreInnerUptoCard : Claim7 := { stood := { row := coreInnerUptoRow, standIns := [], harness := (true, "3ffed9cf8175f730bd08abb64279f0fa7fe092551d37da00ecaef26f96ff39e7"), looks := false }, kinds := [], alts := [], laidByText := true, laidKinds := [.data, .data, .data], laidTests := true, laidLooks := .later }
def CoreInnerUptoCardSaid : Prop := Claim7.holds Tryz.pinned (.plain (OpenSpec.upto coreInnerSpec)) coreInnerUptoCard

/-- THE SECOND FORM's CARD OF 'ceilinglaw16.CoreKnown'. -/
def coreKnownUptoCard : Claim7 := { stood := { row := coreKnownUptoRow, standIns := [], harness := (true, "3ffed9cf8175f730bd08abb64279f0fa7fe092551d37da00ecaef26f96ff39e7"), looks := false }, kinds := [], alts := [], laidByText := true, laidKinds := [.data, .data, .data], laidTests := true, laidLooks := .later }
def CoreKnownUptoCardSaid : Prop := Claim7.holds Tryz.pinned (.plain (OpenSpec.upto coreKnownSpec)) coreKnownUptoCard

/-- THE SECOND FORM's CARD OF 'ceilinglaw16.CoreSame'. -/
def coreSameUptoCard : Claim7 := { stood := { row := coreSameUptoRow, standIns := [], harness := (true, "3ffed9cf8175f730bd08abb64279f0fa7fe092551d37da00ecaef26f96ff39e7"), looks := false }, kinds := [], alts := [], laidByText := true, laidKinds := [.data, .data, .data], laidTests := true, laidLooks := .later }
def CoreSameUptoCardSaid : Prop := Claim7.holds Tryz.pinned (.plain (OpenSpec.upto coreSameSpec)) coreSameUptoCard
end Rows
end Go.Proofs.YtomkobcipaligaaGreatDoor
