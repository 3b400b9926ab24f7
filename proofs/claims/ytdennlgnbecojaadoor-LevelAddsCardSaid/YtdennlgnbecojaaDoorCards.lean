/-
  DERIVED. GIVEN WITH THE SEED: THE CARDS: each row of YtdennlgnbecojaaDoorRows.lean that lists a variable, with what it lists TIED to the program's text (the seventh form; the later family's looks); each row that meets fmt, with fmt's text TOLD by the authors' own Lean function (tested against real Go, not proved from fmt's source: count such statements apart). THE CARD IS WHAT COUNTS. Prove the row's statement (the work); the ties are given (YtdennlgnbecojaaDoorTie.lean); close each card by the builder's one call (the guide's Derived/Test/ToyasCard.lean, 'card_holds'). Laid BY PROGRAM, IN A SANDBOX (cutbox-door.mjs). By AI agents, Wed Nov 11 2026. No macro, syntax, notation, axiom, sorry.
-/
import Derived.Test.YtdennlgnbecojaaDoorRows
import GoSem.ClaimSeven
namespace Go.Proofs.YtdennlgnbecojaaDoor
namespace Rows

/-- THE TIED CARD OF 'ceilinglaw12.LevelRegions'. -/
def levelRegionsCard : Claim7 := { stood := { row := levelRegionsRow, standIns := [], harness := (true, "35c39ec9600e20088838671d6c4fa4e0c5eb404779fbb072620c376af2f2eb37"), looks := false }, kinds := [], alts := [], laidByText := true, laidKinds := [.data], laidTests := true, laidLooks := .later }
def LevelRegionsCardSaid : Prop := Claim7.holds Tryd.pinned (.plain (OpenSpec.ofChange levelRegionsSpec)) levelRegionsCard

/-- THE TIED CARD OF 'ceilinglaw12.LevelChecks'. -/
def levelChecksCard : Claim7 := { stood := { row := levelChecksRow, standIns := [], harness := (true, "35c39ec9600e20088838671d6c4fa4e0c5eb404779fbb072620c376af2f2eb37"), looks := false }, kinds := [], alts := [], laidByText := true, laidKinds := [.data], laidTests := true, laidLooks := .later }
def LevelChecksCardSaid : Prop := Claim7.holds Tryd.pinned (.plain (OpenSpec.ofChange levelChecksSpec)) levelChecksCard

/-- THE TIED CARD OF 'ceilinglaw12.LevelOutlives'. -/
def levelOutlivesCard : Claim7 := { stood := { row := levelOutlivesRow, standIns := [], harness := (true, "35c39ec9600e20088838671d6c4fa4e0c5eb404779fbb072620c376af2f2eb37"), looks := false }, kinds := [], alts := [], laidByText := true, laidKinds := [.data], laidTests := true, laidLooks := .later }
def LevelOutlivesCardSaid : Prop := Claim7.holds Tryd.pinned (.plain (OpenSpec.ofChange levelOutlivesSpec)) levelOutlivesCard

/-- THE TIED CARD OF 'ceilinglaw12.LevelChain'. -/
def levelChainCard : Claim7 := { stood := { row := levelChainRow, standIns := [], harness := (true, "35c39ec9600e20088838671d6c4fa4e0c5eb404779fbb072620c376af2f2eb37"), looks := false }, kinds := [], alts := [], laidByText := true, laidKinds := [.data], laidTests := true, laidLooks := .later }
def LevelChainCardSaid : Prop := Claim7.holds Tryd.pinned (.plain (OpenSpec.ofChange levelChainSpec)) levelChainCard

/-- THE TIED CARD OF 'ceilinglaw12.LevelAdds'. -/
def levelAddsCard : Claim7 := { stood := { row := levelAddsRow, standIns := [], harness := (true, "35c39ec9600e20088838671d6c4fa4e0c5eb404779fbb072620c376af2f2eb37"), looks := false }, kinds := [], alts := [], laidByText := true, laidKinds := [.data], laidTests := true, laidLooks := .later }
def LevelAddsCardSaid : Prop := Claim7.holds Tryd.pinned (.plain (OpenSpec.ofChange levelAddsSpec)) levelAddsCard

/-- THE SECOND FORM's CARD OF 'ceilinglaw12.LevelRegions'. -/
def levelRegionsUptoCard : Claim7 := { stood := { row := levelRegionsUptoRow, standIns := [], harness := (true, "35c39ec9600e20088838671d6c4fa4e0c5eb404779fbb072620c376af2f2eb37"), looks := false }, kinds := [], alts := [], laidByText := true, laidKinds := [.data], laidTests := true, laidLooks := .later }
def LevelRegionsUptoCardSaid : Prop := Claim7.holds Tryd.pinned (.plain (OpenSpec.upto levelRegionsSpec)) levelRegionsUptoCard

/-- THE SECOND FORM's CARD OF 'ceilinglaw12.LevelChecks'. -/
def levelChecksUptoCard : Claim7 := { stood := { row := levelChecksUptoRow, standIns := [], harness := (true, "35c39ec9600e20088838671d6c4fa4e0c5eb404779fbb072620c376af2f2eb37"), looks := false }, kinds := [], alts := [], laidByText := true, laidKinds := [.data], laidTests := true, laidLooks := .later }
def LevelChecksUptoCardSaid : Prop := Claim7.holds Tryd.pinned (.plain (OpenSpec.upto levelChecksSpec)) levelChecksUptoCard

/-- THE SECOND FORM's CARD OF 'ceilinglaw12.LevelOutlives'. -/
def levelOutlivesUptoCard : Claim7 := { stood := { row := levelOutlivesUptoRow, standIns := [], harness := (true, "35c39ec9600e20088838671d6c4fa4e0c5eb404779fbb072620c376af2f2eb37"), looks := false }, kinds := [], alts := [], laidByText := true, laidKinds := [.data], laidTests := true, laidLooks := .later }
def LevelOutlivesUptoCardSaid : Prop := Claim7.holds Tryd.pinned (.plain (OpenSpec.upto levelOutlivesSpec)) levelOutlivesUptoCard

/-- THE SECOND FORM's CARD OF 'ceilinglaw12.LevelChain'. -/
def levelChainUptoCard : Claim7 := { stood := { row := levelChainUptoRow, standIns := [], harness := (true, "35c39ec9600e20088838671d6c4fa4e0c5eb404779fbb072620c376af2f2eb37"), looks := false }, kinds := [], alts := [], laidByText := true, laidKinds := [.data], laidTests := true, laidLooks := .later }
def LevelChainUptoCardSaid : Prop := Claim7.holds Tryd.pinned (.plain (OpenSpec.upto levelChainSpec)) levelChainUptoCard

/-- THE SECOND FORM's CARD OF 'ceilinglaw12.LevelAdds'. -/
def levelAddsUptoCard : Claim7 := { stood := { row := levelAddsUptoRow, standIns := [], harness := (true, "35c39ec9600e20088838671d6c4fa4e0c5eb404779fbb072620c376af2f2eb37"), looks := false }, kinds := [], alts := [], laidByText := true, laidKinds := [.data], laidTests := true, laidLooks := .later }
def LevelAddsUptoCardSaid : Prop := Claim7.holds Tryd.pinned (.plain (OpenSpec.upto levelAddsSpec)) levelAddsUptoCard
end Rows
end Go.Proofs.YtdennlgnbecojaaDoor
