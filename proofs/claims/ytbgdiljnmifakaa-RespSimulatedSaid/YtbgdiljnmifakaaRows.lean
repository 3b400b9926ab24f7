/-
  No cell of these rows narrows 'for every input' (looked for: loops, veiled, ifaces, maps, wideKeys, modest, calm, conditions, laid).
  DERIVED. THE GIVEN ROWS OF THIS SEAT. 6 by the template 'for every input the law returns true; each argument reads behind the call as it read before'; 0 by the template 'total and deterministic' (their statements: YtbgdiljnmifakaaTotals.lean).
  GIVEN WITH THE SEED: the statements are not yours to turn. If you find one false, say at which input.
  Laid BY PROGRAM, IN A SANDBOX (cutbox-rows.mjs): the forced cells as the released guide's own fill.sh prints them over the translation 79c95821a17ce82b… (all of the seat's roots in one cut). By AI agents, Wed Nov 11 2026. No macro, syntax, notation, axiom, sorry.
-/
import Derived.Test.YtbgdiljnmifakaaChecked
import GoSem.Claim
import GoSem.ClaimJoined
import GoSem.ClaimMapViews
import Derived.JoinedTies
import Derived.KernelRfl
namespace Go.Proofs.Ytbgdiljnmifakaa
/- THE CELL 'sum', in the pinned program and in every row, IS THE sha256 OF THE DUMP (.gsa) THAT YtbgdiljnmifakaaProg.lean LOADS. Nothing in Lean hashes anything: it is a label: what it is worth is what the hold of that sum in a sandbox is worth. -/
noncomputable def Try.pinned : Pinned := { name := "ytbgdiljnmifakaa", sum := "79c95821a17ce82b58e7a72c838b0475a396656cf3ec8ec8cade805beb3378ec", checked := Try.checked }
namespace Rows
def none {H : Type} : Left H := { results := [], args := [] }

/-- 'ceilinglaw39.RespAll': WHATEVER THE INPUT: true; the input reads as it did. -/
def respAllSpec : ChangeSpec := { name := "respAll", fn := fun _ => fun
  | [d] => { results := [.lit (.bool true)], args := [d] }
  | _ => none }
def respAllRow : OpenClaim := { program := "ytbgdiljnmifakaa", sum := "79c95821a17ce82b58e7a72c838b0475a396656cf3ec8ec8cade805beb3378ec", func := "ceiling/ceilinglaw39.RespAll", spec := "respAll", unfollowed := true, recurses := true, apart := false }
def RespAllSaid : Prop := respAllRow.holds Try.pinned (OpenSpec.ofChange respAllSpec)

/-- ITS FALSE NEIGHBOUR: 'it returns false'. Refute it at one input. -/
def respAllWrong : ChangeSpec := { name := "respAll", fn := fun _ => fun
  | [d] => { results := [.lit (.bool false)], args := [d] }
  | _ => none }
def RespAllWrongFalsely : Prop := respAllRow.holds Try.pinned (OpenSpec.ofChange respAllWrong)

/-- 'ceilinglaw39.RespSimulated': WHATEVER THE INPUT: true; the input reads as it did. -/
def respSimulatedSpec : ChangeSpec := { name := "respSimulated", fn := fun _ => fun
  | [d1, d2] => { results := [.lit (.bool true)], args := [d1, d2] }
  | _ => none }
def respSimulatedRow : OpenClaim := { program := "ytbgdiljnmifakaa", sum := "79c95821a17ce82b58e7a72c838b0475a396656cf3ec8ec8cade805beb3378ec", func := "ceiling/ceilinglaw39.RespSimulated", spec := "respSimulated", unfollowed := true, recurses := true, apart := false }
def RespSimulatedSaid : Prop := respSimulatedRow.holds Try.pinned (OpenSpec.ofChange respSimulatedSpec)

/-- ITS FALSE NEIGHBOUR: 'it returns false'. Refute it at one input. -/
def respSimulatedWrong : ChangeSpec := { name := "respSimulated", fn := fun _ => fun
  | [d1, d2] => { results := [.lit (.bool false)], args := [d1, d2] }
  | _ => none }
def RespSimulatedWrongFalsely : Prop := respSimulatedRow.holds Try.pinned (OpenSpec.ofChange respSimulatedWrong)

/-- 'ceilinglaw39.RespMore': WHATEVER THE INPUT: true; the input reads as it did. -/
def respMoreSpec : ChangeSpec := { name := "respMore", fn := fun _ => fun
  | [d1, d2, d3, d4] => { results := [.lit (.bool true)], args := [d1, d2, d3, d4] }
  | _ => none }
def respMoreRow : OpenClaim := { program := "ytbgdiljnmifakaa", sum := "79c95821a17ce82b58e7a72c838b0475a396656cf3ec8ec8cade805beb3378ec", func := "ceiling/ceilinglaw39.RespMore", spec := "respMore", unfollowed := true, recurses := true, apart := false }
def RespMoreSaid : Prop := respMoreRow.holds Try.pinned (OpenSpec.ofChange respMoreSpec)

/-- ITS FALSE NEIGHBOUR: 'it returns false'. Refute it at one input. -/
def respMoreWrong : ChangeSpec := { name := "respMore", fn := fun _ => fun
  | [d1, d2, d3, d4] => { results := [.lit (.bool false)], args := [d1, d2, d3, d4] }
  | _ => none }
def RespMoreWrongFalsely : Prop := respMoreRow.holds Try.pinned (OpenSpec.ofChange respMoreWrong)

/-- 'ceilinglaw39.RespCalls': WHATEVER THE INPUT: true; the input reads as it did. -/
def respCallsSpec : ChangeSpec := { name := "respCalls", fn := fun _ => fun
  | [d1, d2, d3] => { results := [.lit (.bool true)], args := [d1, d2, d3] }
  | _ => none }
def respCallsRow : OpenClaim := { program := "ytbgdiljnmifakaa", sum := "79c95821a17ce82b58e7a72c838b0475a396656cf3ec8ec8cade805beb3378ec", func := "ceiling/ceilinglaw39.RespCalls", spec := "respCalls", unfollowed := true, recurses := true, apart := false }
def RespCallsSaid : Prop := respCallsRow.holds Try.pinned (OpenSpec.ofChange respCallsSpec)

/-- ITS FALSE NEIGHBOUR: 'it returns false'. Refute it at one input. -/
def respCallsWrong : ChangeSpec := { name := "respCalls", fn := fun _ => fun
  | [d1, d2, d3] => { results := [.lit (.bool false)], args := [d1, d2, d3] }
  | _ => none }
def RespCallsWrongFalsely : Prop := respCallsRow.holds Try.pinned (OpenSpec.ofChange respCallsWrong)

/-- 'ceilinglaw39.RespLeast': WHATEVER THE INPUT: true; the input reads as it did. -/
def respLeastSpec : ChangeSpec := { name := "respLeast", fn := fun _ => fun
  | [d1, d2] => { results := [.lit (.bool true)], args := [d1, d2] }
  | _ => none }
def respLeastRow : OpenClaim := { program := "ytbgdiljnmifakaa", sum := "79c95821a17ce82b58e7a72c838b0475a396656cf3ec8ec8cade805beb3378ec", func := "ceiling/ceilinglaw39.RespLeast", spec := "respLeast", unfollowed := true, recurses := true, apart := false }
def RespLeastSaid : Prop := respLeastRow.holds Try.pinned (OpenSpec.ofChange respLeastSpec)

/-- ITS FALSE NEIGHBOUR: 'it returns false'. Refute it at one input. -/
def respLeastWrong : ChangeSpec := { name := "respLeast", fn := fun _ => fun
  | [d1, d2] => { results := [.lit (.bool false)], args := [d1, d2] }
  | _ => none }
def RespLeastWrongFalsely : Prop := respLeastRow.holds Try.pinned (OpenSpec.ofChange respLeastWrong)

/-- 'ceilinglaw39.RespKnown': WHATEVER THE INPUT: true; the input reads as it did. -/
def respKnownSpec : ChangeSpec := { name := "respKnown", fn := fun _ => fun
  | [] => { results := [.lit (.bool true)], args := [] }
  | _ => none }
def respKnownRow : OpenClaim := { program := "ytbgdiljnmifakaa", sum := "79c95821a17ce82b58e7a72c838b0475a396656cf3ec8ec8cade805beb3378ec", func := "ceiling/ceilinglaw39.RespKnown", spec := "respKnown", unfollowed := true, recurses := true, apart := false }
def RespKnownSaid : Prop := respKnownRow.holds Try.pinned (OpenSpec.ofChange respKnownSpec)

/-- ITS FALSE NEIGHBOUR: 'it returns false'. Refute it at one input. -/
def respKnownWrong : ChangeSpec := { name := "respKnown", fn := fun _ => fun
  | [] => { results := [.lit (.bool false)], args := [] }
  | _ => none }
def RespKnownWrongFalsely : Prop := respKnownRow.holds Try.pinned (OpenSpec.ofChange respKnownWrong)

/- THE SECOND FORM. 'bulk': how many values and letters a reading holds, each counted each time it is reached (what is shared counts as often as it is met; a slice's spare places count too). A statement '..UptoSaid' is the law's where the arguments, and the package variables that the reading takes, are together of bulk at most 1048576: NARROWER than '..Said'. Prove '..Said' where nothing that the law and all that it calls make is longer than what came in: it says more and counts as full. Else prove '..UptoSaid'. A law counts once. -/
mutual
def uptoBulk {H : Type} : DataW H → Nat
  | .lit (.string bytes) => bytes.length + 1
  | .lit _ => 1
  | .nil => 1
  | .ptr d => uptoBulk d + 1
  | .slice elems spare => uptoBulkAll elems + uptoBulkAll spare + 1
  | .agg parts => uptoBulkAll parts + 1
  | .iface _ d => uptoBulk d + 1
  | .map entries => uptoBulkEntries entries + 1
  | .held _ => 1
def uptoBulkAll {H : Type} : List (DataW H) → Nat
  | [] => 0
  | d :: r => uptoBulk d + uptoBulkAll r
def uptoBulkEntries {H : Type} : List (Lit × DataW H) → Nat
  | [] => 0
  | x :: r => uptoBulkEntry x + uptoBulkEntries r
def uptoBulkEntry {H : Type} : Lit × DataW H → Nat
  | (.string bytes, d) => bytes.length + uptoBulk d + 1
  | (_, d) => uptoBulk d + 1
 end
def uptoSmall : (H : Type) → List (DataW H) → Bool := fun _ ds => decide (uptoBulkAll ds ≤ 1048576)
def OpenSpec.upto (s : _root_.Go.ChangeSpec) : _root_.Go.OpenSpec := { _root_.Go.OpenSpec.ofChange s with cond := some uptoSmall }

/-- 'ceilinglaw39.RespAll', WHERE WHAT IT READS IS OF BULK AT MOST 1048576: true; the input reads as it did. -/
def respAllUptoRow : OpenClaim := { program := "ytbgdiljnmifakaa", sum := "79c95821a17ce82b58e7a72c838b0475a396656cf3ec8ec8cade805beb3378ec", func := "ceiling/ceilinglaw39.RespAll", spec := "respAll", unfollowed := true, recurses := true, apart := false, narrowed := true }
def RespAllUptoSaid : Prop := respAllUptoRow.holds Try.pinned (OpenSpec.upto respAllSpec)

/-- 'ceilinglaw39.RespSimulated', WHERE WHAT IT READS IS OF BULK AT MOST 1048576: true; the input reads as it did. -/
def respSimulatedUptoRow : OpenClaim := { program := "ytbgdiljnmifakaa", sum := "79c95821a17ce82b58e7a72c838b0475a396656cf3ec8ec8cade805beb3378ec", func := "ceiling/ceilinglaw39.RespSimulated", spec := "respSimulated", unfollowed := true, recurses := true, apart := false, narrowed := true }
def RespSimulatedUptoSaid : Prop := respSimulatedUptoRow.holds Try.pinned (OpenSpec.upto respSimulatedSpec)

/-- 'ceilinglaw39.RespMore', WHERE WHAT IT READS IS OF BULK AT MOST 1048576: true; the input reads as it did. -/
def respMoreUptoRow : OpenClaim := { program := "ytbgdiljnmifakaa", sum := "79c95821a17ce82b58e7a72c838b0475a396656cf3ec8ec8cade805beb3378ec", func := "ceiling/ceilinglaw39.RespMore", spec := "respMore", unfollowed := true, recurses := true, apart := false, narrowed := true }
def RespMoreUptoSaid : Prop := respMoreUptoRow.holds Try.pinned (OpenSpec.upto respMoreSpec)

/-- 'ceilinglaw39.RespCalls', WHERE WHAT IT READS IS OF BULK AT MOST 1048576: true; the input reads as it did. -/
def respCallsUptoRow : OpenClaim := { program := "ytbgdiljnmifakaa", sum := "79c95821a17ce82b58e7a72c838b0475a396656cf3ec8ec8cade805beb3378ec", func := "ceiling/ceilinglaw39.RespCalls", spec := "respCalls", unfollowed := true, recurses := true, apart := false, narrowed := true }
def RespCallsUptoSaid : Prop := respCallsUptoRow.holds Try.pinned (OpenSpec.upto respCallsSpec)

/-- 'ceilinglaw39.RespLeast', WHERE WHAT IT READS IS OF BULK AT MOST 1048576: true; the input reads as it did. -/
def respLeastUptoRow : OpenClaim := { program := "ytbgdiljnmifakaa", sum := "79c95821a17ce82b58e7a72c838b0475a396656cf3ec8ec8cade805beb3378ec", func := "ceiling/ceilinglaw39.RespLeast", spec := "respLeast", unfollowed := true, recurses := true, apart := false, narrowed := true }
def RespLeastUptoSaid : Prop := respLeastUptoRow.holds Try.pinned (OpenSpec.upto respLeastSpec)

/-- 'ceilinglaw39.RespKnown', WHERE WHAT IT READS IS OF BULK AT MOST 1048576: true; the input reads as it did. -/
def respKnownUptoRow : OpenClaim := { program := "ytbgdiljnmifakaa", sum := "79c95821a17ce82b58e7a72c838b0475a396656cf3ec8ec8cade805beb3378ec", func := "ceiling/ceilinglaw39.RespKnown", spec := "respKnown", unfollowed := true, recurses := true, apart := false, narrowed := true }
def RespKnownUptoSaid : Prop := respKnownUptoRow.holds Try.pinned (OpenSpec.upto respKnownSpec)

end Rows
end Go.Proofs.Ytbgdiljnmifakaa
