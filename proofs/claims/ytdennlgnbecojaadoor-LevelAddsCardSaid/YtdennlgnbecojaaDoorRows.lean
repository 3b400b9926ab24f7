/-
  NARROWER THAN 'FOR EVERY INPUT', by the rows' own cells (each row's printed sentence says how): LevelRegions: loops, laid · LevelChecks: loops, laid · LevelOutlives: loops, laid · LevelChain: loops, laid · LevelAdds: loops, laid.
  DERIVED. THE GIVEN ROWS OF THIS SEAT. 5 by the template 'for every input the law returns true; each argument reads behind the call as it read before'; 0 by the template 'total and deterministic' (their statements: YtdennlgnbecojaaDoorTotals.lean).
  GIVEN WITH THE SEED: the statements are not yours to turn. If you find one false, say at which input.
  Laid BY PROGRAM, IN A SANDBOX (cutbox-rows.mjs): the forced cells as the released guide's own fill.sh prints them over the translation a6d78ad458041167… (all of the seat's roots in one cut). By AI agents, Wed Nov 11 2026. No macro, syntax, notation, axiom, sorry.
-/
import Derived.Test.YtdennlgnbecojaaDoorChecked
import GoSem.Claim
import GoSem.ClaimJoined
import GoSem.ClaimMapViews
import Derived.JoinedTies
import Derived.KernelRfl
namespace Go.Proofs.YtdennlgnbecojaaDoor
/- THE CELL 'sum', in the pinned program and in every row, IS THE sha256 OF THE DUMP (.gsa) THAT YtdennlgnbecojaaDoorProg.lean LOADS. Nothing in Lean hashes anything: it is a label: what it is worth is what the hold of that sum in a sandbox is worth. -/
noncomputable def Tryd.pinned : Pinned := { name := "ytdennlgnbecojaadoor", sum := "a6d78ad4580411671a6a0440d587cf653f41c3ee602cdd3815bcc46e30112edb", checked := Tryd.checked }
namespace Rows
def none {H : Type} : Left H := { results := [], args := [] }

/- WHAT THE LISTED PACKAGE-LEVEL VARIABLES READ AS WHEN THE CALL BEGINS. Each datum BY PROGRAM (the guide's laid-datum.mjs) off the statement by which the dump's own 'gosem.cut.vars' lays the variable. In a bare row this is a premise. The card (YtdennlgnbecojaaDoorCards.lean) ties it to the program's text. -/
def laid_ceiling_level_adds {H : Type} : DataW H := .agg [.lit (.int .i64 0), .lit (.int .i64 0), .lit (.int .i64 1), .lit (.int .i64 2), .lit (.int .i64 2), .lit (.int .i64 0), .lit (.int .i64 0), .lit (.int .i64 0), .lit (.int .i64 0), .lit (.int .i64 0), .lit (.int .i64 0), .lit (.int .i64 0), .lit (.int .i64 2), .lit (.int .i64 1), .lit (.int .i64 2), .lit (.int .i64 0), .lit (.int .i64 0), .lit (.int .i64 2), .lit (.int .i64 2), .lit (.int .i64 0), .lit (.int .i64 0), .lit (.int .i64 0), .lit (.int .i64 0), .lit (.int .i64 0), .lit (.int .i64 0), .lit (.int .i64 0), .lit (.int .i64 0), .lit (.int .i64 0), .lit (.int .i64 0), .lit (.int .i64 0), .lit (.int .i64 0), .lit (.int .i64 0), .lit (.int .i64 0), .lit (.int .i64 0), .lit (.int .i64 0), .lit (.int .i64 0), .lit (.int .i64 0), .lit (.int .i64 0), .lit (.int .i64 0), .lit (.int .i64 0), .lit (.int .i64 0), .lit (.int .i64 0), .lit (.int .i64 0), .lit (.int .i64 0), .lit (.int .i64 0), .lit (.int .i64 0), .lit (.int .i64 0), .lit (.int .i64 0), .lit (.int .i64 0), .lit (.int .i64 0), .lit (.int .i64 0), .lit (.int .i64 0), .lit (.int .i64 0), .lit (.int .i64 0), .lit (.int .i64 0), .lit (.int .i64 0), .lit (.int .i64 0), .lit (.int .i64 0), .lit (.int .i64 0), .lit (.int .i64 0), .lit (.int .i64 0), .lit (.int .i64 0), .lit (.int .i64 0), .lit (.int .i64 0), .lit (.int .i64 0), .lit (.int .i64 0), .lit (.int .i64 0), .lit (.int .i64 0), .lit (.int .i64 0), .lit (.int .i64 0), .lit (.int .i64 0), .lit (.int .i64 0), .lit (.int .i64 0), .lit (.int .i64 0), .lit (.int .i64 0), .lit (.int .i64 0), .lit (.int .i64 0), .lit (.int .i64 0), .lit (.int .i64 0), .lit (.int .i64 0), .lit (.int .i64 0), .lit (.int .i64 0), .lit (.int .i64 0), .lit (.int .i64 0), .lit (.int .i64 0), .lit (.int .i64 0), .lit (.int .i64 0), .lit (.int .i64 0), .lit (.int .i64 0), .lit (.int .i64 0), .lit (.int .i64 0), .lit (.int .i64 0), .lit (.int .i64 0), .lit (.int .i64 0), .lit (.int .i64 0), .lit (.int .i64 0), .lit (.int .i64 0), .lit (.int .i64 0), .lit (.int .i64 0), .lit (.int .i64 0), .lit (.int .i64 0), .lit (.int .i64 0), .lit (.int .i64 0), .lit (.int .i64 0), .lit (.int .i64 0), .lit (.int .i64 0), .lit (.int .i64 0), .lit (.int .i64 0), .lit (.int .i64 0), .lit (.int .i64 0), .lit (.int .i64 0), .lit (.int .i64 0), .lit (.int .i64 0), .lit (.int .i64 0), .lit (.int .i64 0), .lit (.int .i64 0), .lit (.int .i64 0), .lit (.int .i64 0), .lit (.int .i64 0), .lit (.int .i64 0), .lit (.int .i64 0), .lit (.int .i64 0), .lit (.int .i64 0), .lit (.int .i64 0), .lit (.int .i64 0), .lit (.int .i64 0), .lit (.int .i64 0), .lit (.int .i64 0), .lit (.int .i64 0), .lit (.int .i64 0), .lit (.int .i64 0), .lit (.int .i64 0), .lit (.int .i64 0), .lit (.int .i64 0), .lit (.int .i64 0), .lit (.int .i64 0), .lit (.int .i64 0), .lit (.int .i64 0), .lit (.int .i64 0), .lit (.int .i64 0), .lit (.int .i64 0), .lit (.int .i64 0), .lit (.int .i64 0), .lit (.int .i64 0), .lit (.int .i64 0), .lit (.int .i64 0), .lit (.int .i64 0), .lit (.int .i64 0), .lit (.int .i64 0), .lit (.int .i64 0), .lit (.int .i64 0), .lit (.int .i64 0), .lit (.int .i64 0), .lit (.int .i64 0), .lit (.int .i64 0), .lit (.int .i64 0), .lit (.int .i64 0), .lit (.int .i64 0), .lit (.int .i64 0), .lit (.int .i64 0), .lit (.int .i64 0), .lit (.int .i64 0), .lit (.int .i64 0), .lit (.int .i64 0), .lit (.int .i64 0), .lit (.int .i64 0), .lit (.int .i64 0), .lit (.int .i64 0), .lit (.int .i64 0), .lit (.int .i64 0), .lit (.int .i64 0), .lit (.int .i64 0), .lit (.int .i64 0), .lit (.int .i64 0), .lit (.int .i64 0), .lit (.int .i64 0), .lit (.int .i64 0), .lit (.int .i64 0), .lit (.int .i64 0), .lit (.int .i64 0), .lit (.int .i64 0), .lit (.int .i64 0), .lit (.int .i64 0), .lit (.int .i64 0), .lit (.int .i64 0), .lit (.int .i64 0), .lit (.int .i64 0), .lit (.int .i64 0), .lit (.int .i64 0), .lit (.int .i64 0), .lit (.int .i64 0), .lit (.int .i64 0), .lit (.int .i64 0), .lit (.int .i64 0), .lit (.int .i64 0), .lit (.int .i64 0), .lit (.int .i64 0), .lit (.int .i64 0), .lit (.int .i64 0), .lit (.int .i64 0), .lit (.int .i64 0), .lit (.int .i64 0), .lit (.int .i64 0), .lit (.int .i64 0), .lit (.int .i64 0), .lit (.int .i64 0), .lit (.int .i64 0), .lit (.int .i64 0), .lit (.int .i64 0), .lit (.int .i64 0), .lit (.int .i64 0), .lit (.int .i64 0), .lit (.int .i64 0), .lit (.int .i64 0), .lit (.int .i64 0), .lit (.int .i64 0), .lit (.int .i64 0), .lit (.int .i64 0), .lit (.int .i64 0), .lit (.int .i64 0), .lit (.int .i64 0), .lit (.int .i64 0), .lit (.int .i64 0), .lit (.int .i64 0), .lit (.int .i64 0), .lit (.int .i64 0), .lit (.int .i64 0), .lit (.int .i64 0), .lit (.int .i64 0), .lit (.int .i64 0), .lit (.int .i64 0), .lit (.int .i64 0), .lit (.int .i64 0), .lit (.int .i64 0), .lit (.int .i64 0), .lit (.int .i64 0), .lit (.int .i64 0), .lit (.int .i64 0), .lit (.int .i64 0), .lit (.int .i64 0), .lit (.int .i64 0), .lit (.int .i64 0), .lit (.int .i64 0), .lit (.int .i64 0), .lit (.int .i64 0), .lit (.int .i64 0), .lit (.int .i64 0), .lit (.int .i64 0), .lit (.int .i64 0), .lit (.int .i64 0), .lit (.int .i64 0), .lit (.int .i64 0), .lit (.int .i64 0), .lit (.int .i64 0), .lit (.int .i64 0), .lit (.int .i64 0)]

/-- 'ceilinglaw12.LevelRegions': WHATEVER THE INPUT: true; the input reads as it did. -/
def levelRegionsSpec : ChangeSpec := { name := "levelRegions", fn := fun _ => fun
  | [d1, d2] => { results := [.lit (.bool true)], args := [d1, d2] }
  | _ => none }
def levelRegionsRow : OpenClaim := { program := "ytdennlgnbecojaadoor", sum := "a6d78ad4580411671a6a0440d587cf653f41c3ee602cdd3815bcc46e30112edb", func := "ceiling/ceilinglaw12.LevelRegions", spec := "levelRegions", unfollowed := true, recurses := true, named := ["ceiling/level.adds"], loops := true, apart := false, laid := [("ceiling/level.adds", laid_ceiling_level_adds)] }
def LevelRegionsSaid : Prop := levelRegionsRow.holds Tryd.pinned (OpenSpec.ofChange levelRegionsSpec)

/-- ITS FALSE NEIGHBOUR: 'it returns false'. Refute it at one input. -/
def levelRegionsWrong : ChangeSpec := { name := "levelRegions", fn := fun _ => fun
  | [d1, d2] => { results := [.lit (.bool false)], args := [d1, d2] }
  | _ => none }
def LevelRegionsWrongFalsely : Prop := levelRegionsRow.holds Tryd.pinned (OpenSpec.ofChange levelRegionsWrong)

/-- 'ceilinglaw12.LevelChecks': WHATEVER THE INPUT: true; the input reads as it did. -/
def levelChecksSpec : ChangeSpec := { name := "levelChecks", fn := fun _ => fun
  | [d1, d2, d3, d4] => { results := [.lit (.bool true)], args := [d1, d2, d3, d4] }
  | _ => none }
def levelChecksRow : OpenClaim := { program := "ytdennlgnbecojaadoor", sum := "a6d78ad4580411671a6a0440d587cf653f41c3ee602cdd3815bcc46e30112edb", func := "ceiling/ceilinglaw12.LevelChecks", spec := "levelChecks", unfollowed := true, recurses := true, named := ["ceiling/level.adds"], loops := true, apart := false, laid := [("ceiling/level.adds", laid_ceiling_level_adds)] }
def LevelChecksSaid : Prop := levelChecksRow.holds Tryd.pinned (OpenSpec.ofChange levelChecksSpec)

/-- ITS FALSE NEIGHBOUR: 'it returns false'. Refute it at one input. -/
def levelChecksWrong : ChangeSpec := { name := "levelChecks", fn := fun _ => fun
  | [d1, d2, d3, d4] => { results := [.lit (.bool false)], args := [d1, d2, d3, d4] }
  | _ => none }
def LevelChecksWrongFalsely : Prop := levelChecksRow.holds Tryd.pinned (OpenSpec.ofChange levelChecksWrong)

/-- 'ceilinglaw12.LevelOutlives': WHATEVER THE INPUT: true; the input reads as it did. -/
def levelOutlivesSpec : ChangeSpec := { name := "levelOutlives", fn := fun _ => fun
  | [d1, d2, d3, d4] => { results := [.lit (.bool true)], args := [d1, d2, d3, d4] }
  | _ => none }
def levelOutlivesRow : OpenClaim := { program := "ytdennlgnbecojaadoor", sum := "a6d78ad4580411671a6a0440d587cf653f41c3ee602cdd3815bcc46e30112edb", func := "ceiling/ceilinglaw12.LevelOutlives", spec := "levelOutlives", unfollowed := true, recurses := true, named := ["ceiling/level.adds"], loops := true, apart := false, laid := [("ceiling/level.adds", laid_ceiling_level_adds)] }
def LevelOutlivesSaid : Prop := levelOutlivesRow.holds Tryd.pinned (OpenSpec.ofChange levelOutlivesSpec)

/-- ITS FALSE NEIGHBOUR: 'it returns false'. Refute it at one input. -/
def levelOutlivesWrong : ChangeSpec := { name := "levelOutlives", fn := fun _ => fun
  | [d1, d2, d3, d4] => { results := [.lit (.bool false)], args := [d1, d2, d3, d4] }
  | _ => none }
def LevelOutlivesWrongFalsely : Prop := levelOutlivesRow.holds Tryd.pinned (OpenSpec.ofChange levelOutlivesWrong)

/-- 'ceilinglaw12.LevelChain': WHATEVER THE INPUT: true; the input reads as it did. -/
def levelChainSpec : ChangeSpec := { name := "levelChain", fn := fun _ => fun
  | [d1, d2, d3, d4, d5] => { results := [.lit (.bool true)], args := [d1, d2, d3, d4, d5] }
  | _ => none }
def levelChainRow : OpenClaim := { program := "ytdennlgnbecojaadoor", sum := "a6d78ad4580411671a6a0440d587cf653f41c3ee602cdd3815bcc46e30112edb", func := "ceiling/ceilinglaw12.LevelChain", spec := "levelChain", unfollowed := true, recurses := true, named := ["ceiling/level.adds"], loops := true, apart := false, laid := [("ceiling/level.adds", laid_ceiling_level_adds)] }
def LevelChainSaid : Prop := levelChainRow.holds Tryd.pinned (OpenSpec.ofChange levelChainSpec)

/-- ITS FALSE NEIGHBOUR: 'it returns false'. Refute it at one input. -/
def levelChainWrong : ChangeSpec := { name := "levelChain", fn := fun _ => fun
  | [d1, d2, d3, d4, d5] => { results := [.lit (.bool false)], args := [d1, d2, d3, d4, d5] }
  | _ => none }
def LevelChainWrongFalsely : Prop := levelChainRow.holds Tryd.pinned (OpenSpec.ofChange levelChainWrong)

/-- 'ceilinglaw12.LevelAdds': WHATEVER THE INPUT: true; the input reads as it did. -/
def levelAddsSpec : ChangeSpec := { name := "levelAdds", fn := fun _ => fun
  | [d1, d2, d3] => { results := [.lit (.bool true)], args := [d1, d2, d3] }
  | _ => none }
def levelAddsRow : OpenClaim := { program := "ytdennlgnbecojaadoor", sum := "a6d78ad4580411671a6a0440d587cf653f41c3ee602cdd3815bcc46e30112edb", func := "ceiling/ceilinglaw12.LevelAdds", spec := "levelAdds", unfollowed := true, recurses := true, named := ["ceiling/level.adds"], loops := true, apart := false, laid := [("ceiling/level.adds", laid_ceiling_level_adds)] }
def LevelAddsSaid : Prop := levelAddsRow.holds Tryd.pinned (OpenSpec.ofChange levelAddsSpec)

/-- ITS FALSE NEIGHBOUR: 'it returns false'. Refute it at one input. -/
def levelAddsWrong : ChangeSpec := { name := "levelAdds", fn := fun _ => fun
  | [d1, d2, d3] => { results := [.lit (.bool false)], args := [d1, d2, d3] }
  | _ => none }
def LevelAddsWrongFalsely : Prop := levelAddsRow.holds Tryd.pinned (OpenSpec.ofChange levelAddsWrong)

/- THE SECOND FORM. 'bulk': how many values and letters a reading holds, each counted each time it is reached (what is shared counts as often as it is met; a slice's spare places count too). A statement '..UptoSaid' is the law's where the arguments, and the package variables that the reading takes, are together of bulk at most 1048576: NARROWER than '..Said'. Prove '..Said' where nothing that the law and all that it calls make is longer than what came in: it says more and counts as full. Else prove '..UptoSaid'. A law counts once. -/
mutual
def uptoBulk {H : Type} : DataW H → Nat
  | .lit (.string bytes) => bytes.length + 1
  | .lit _ => 1
  | .nil => 1
  | .ptr d => uptoBulk d + 1
  | .slice elems spare => uptoBulkAll elems + uptoBulkAll spare + 1
  | .agg parts => uptoBulkAll parts + 1
  | .iface _ d => uptoBulk d + 1
  | .map entries => uptoBulkEntries entries + 1
  | .held _ => 1
def uptoBulkAll {H : Type} : List (DataW H) → Nat
  | [] => 0
  | d :: r => uptoBulk d + uptoBulkAll r
def uptoBulkEntries {H : Type} : List (Lit × DataW H) → Nat
  | [] => 0
  | x :: r => uptoBulkEntry x + uptoBulkEntries r
def uptoBulkEntry {H : Type} : Lit × DataW H → Nat
  | (.string bytes, d) => bytes.length + uptoBulk d + 1
  | (_, d) => uptoBulk d + 1
 end
def uptoSmall : (H : Type) → List (DataW H) → Bool := fun _ ds => decide (uptoBulkAll ds ≤ 1048576)
def OpenSpec.upto (s : _root_.Go.ChangeSpec) : _root_.Go.OpenSpec := { _root_.Go.OpenSpec.ofChange s with cond := some uptoSmall }

/-- 'ceilinglaw12.LevelRegions', WHERE WHAT IT READS IS OF BULK AT MOST 1048576: true; the input reads as it did. -/
def levelRegionsUptoRow : OpenClaim := { program := "ytdennlgnbecojaadoor", sum := "a6d78ad4580411671a6a0440d587cf653f41c3ee602cdd3815bcc46e30112edb", func := "ceiling/ceilinglaw12.LevelRegions", spec := "levelRegions", unfollowed := true, recurses := true, named := ["ceiling/level.adds"], loops := true, apart := false, laid := [("ceiling/level.adds", laid_ceiling_level_adds)], narrowed := true }
def LevelRegionsUptoSaid : Prop := levelRegionsUptoRow.holds Tryd.pinned (OpenSpec.upto levelRegionsSpec)

/-- 'ceilinglaw12.LevelChecks', WHERE WHAT IT READS IS OF BULK AT MOST 1048576: true; the input reads as it did. -/
def levelChecksUptoRow : OpenClaim := { program := "ytdennlgnbecojaadoor", sum := "a6d78ad4580411671a6a0440d587cf653f41c3ee602cdd3815bcc46e30112edb", func := "ceiling/ceilinglaw12.LevelChecks", spec := "levelChecks", unfollowed := true, recurses := true, named := ["ceiling/level.adds"], loops := true, apart := false, laid := [("ceiling/level.adds", laid_ceiling_level_adds)], narrowed := true }
def LevelChecksUptoSaid : Prop := levelChecksUptoRow.holds Tryd.pinned (OpenSpec.upto levelChecksSpec)

/-- 'ceilinglaw12.LevelOutlives', WHERE WHAT IT READS IS OF BULK AT MOST 1048576: true; the input reads as it did. -/
def levelOutlivesUptoRow : OpenClaim := { program := "ytdennlgnbecojaadoor", sum := "a6d78ad4580411671a6a0440d587cf653f41c3ee602cdd3815bcc46e30112edb", func := "ceiling/ceilinglaw12.LevelOutlives", spec := "levelOutlives", unfollowed := true, recurses := true, named := ["ceiling/level.adds"], loops := true, apart := false, laid := [("ceiling/level.adds", laid_ceiling_level_adds)], narrowed := true }
def LevelOutlivesUptoSaid : Prop := levelOutlivesUptoRow.holds Tryd.pinned (OpenSpec.upto levelOutlivesSpec)

/-- 'ceilinglaw12.LevelChain', WHERE WHAT IT READS IS OF BULK AT MOST 1048576: true; the input reads as it did. -/
def levelChainUptoRow : OpenClaim := { program := "ytdennlgnbecojaadoor", sum := "a6d78ad4580411671a6a0440d587cf653f41c3ee602cdd3815bcc46e30112edb", func := "ceiling/ceilinglaw12.LevelChain", spec := "levelChain", unfollowed := true, recurses := true, named := ["ceiling/level.adds"], loops := true, apart := false, laid := [("ceiling/level.adds", laid_ceiling_level_adds)], narrowed := true }
def LevelChainUptoSaid : Prop := levelChainUptoRow.holds Tryd.pinned (OpenSpec.upto levelChainSpec)

/-- 'ceilinglaw12.LevelAdds', WHERE WHAT IT READS IS OF BULK AT MOST 1048576: true; the input reads as it did. -/
def levelAddsUptoRow : OpenClaim := { program := "ytdennlgnbecojaadoor", sum := "a6d78ad4580411671a6a0440d587cf653f41c3ee602cdd3815bcc46e30112edb", func := "ceiling/ceilinglaw12.LevelAdds", spec := "levelAdds", unfollowed := true, recurses := true, named := ["ceiling/level.adds"], loops := true, apart := false, laid := [("ceiling/level.adds", laid_ceiling_level_adds)], narrowed := true }
def LevelAddsUptoSaid : Prop := levelAddsUptoRow.holds Tryd.pinned (OpenSpec.upto levelAddsSpec)

end Rows
end Go.Proofs.YtdennlgnbecojaaDoor
