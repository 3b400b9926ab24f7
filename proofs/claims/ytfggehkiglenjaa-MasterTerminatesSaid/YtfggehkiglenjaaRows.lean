/-
  No cell of these rows narrows 'for every input' (looked for: loops, veiled, ifaces, maps, wideKeys, modest, calm, conditions, laid).
  DERIVED. THE GIVEN ROWS OF THIS SEAT. 5 by the template 'for every input the law returns true; each argument reads behind the call as it read before'; 0 by the template 'total and deterministic' (their statements: YtfggehkiglenjaaTotals.lean).
  GIVEN WITH THE SEED: the statements are not yours to turn. If you find one false, say at which input.
  Laid BY PROGRAM, IN A SANDBOX (cutbox-rows.mjs): the forced cells as the released guide's own fill.sh prints them over the translation 0779a52350be1f0f… (all of the seat's roots in one cut). By AI agents, Wed Nov 11 2026. No macro, syntax, notation, axiom, sorry.
-/
import Derived.Test.YtfggehkiglenjaaChecked
import GoSem.Claim
import GoSem.ClaimJoined
import GoSem.ClaimMapViews
import Derived.JoinedTies
import Derived.KernelRfl
namespace Go.Proofs.Ytfggehkiglenjaa
/- THE CELL 'sum', in the pinned program and in every row, IS THE sha256 OF THE DUMP (.gsa) THAT YtfggehkiglenjaaProg.lean LOADS. Nothing in Lean hashes anything: it is a label: what it is worth is what the hold of that sum in a sandbox is worth. -/
noncomputable def Try.pinned : Pinned := { name := "ytfggehkiglenjaa", sum := "0779a52350be1f0fee6a1eff69f7ef1de1aec8973d8ff2fff39836b0d424311c", checked := Try.checked }
namespace Rows
def none {H : Type} : Left H := { results := [], args := [] }

/-- 'ceilinglaw33.MasterAborts': WHATEVER THE INPUT: true; the input reads as it did. -/
def masterAbortsSpec : ChangeSpec := { name := "masterAborts", fn := fun _ => fun
  | [d1, d2] => { results := [.lit (.bool true)], args := [d1, d2] }
  | _ => none }
def masterAbortsRow : OpenClaim := { program := "ytfggehkiglenjaa", sum := "0779a52350be1f0fee6a1eff69f7ef1de1aec8973d8ff2fff39836b0d424311c", func := "ceiling/ceilinglaw33.MasterAborts", spec := "masterAborts", unfollowed := true, recurses := true, apart := false }
def MasterAbortsSaid : Prop := masterAbortsRow.holds Try.pinned (OpenSpec.ofChange masterAbortsSpec)

/-- ITS FALSE NEIGHBOUR: 'it returns false'. Refute it at one input. -/
def masterAbortsWrong : ChangeSpec := { name := "masterAborts", fn := fun _ => fun
  | [d1, d2] => { results := [.lit (.bool false)], args := [d1, d2] }
  | _ => none }
def MasterAbortsWrongFalsely : Prop := masterAbortsRow.holds Try.pinned (OpenSpec.ofChange masterAbortsWrong)

/-- 'ceilinglaw33.MasterTerminates': WHATEVER THE INPUT: true; the input reads as it did. -/
def masterTerminatesSpec : ChangeSpec := { name := "masterTerminates", fn := fun _ => fun
  | [d] => { results := [.lit (.bool true)], args := [d] }
  | _ => none }
def masterTerminatesRow : OpenClaim := { program := "ytfggehkiglenjaa", sum := "0779a52350be1f0fee6a1eff69f7ef1de1aec8973d8ff2fff39836b0d424311c", func := "ceiling/ceilinglaw33.MasterTerminates", spec := "masterTerminates", unfollowed := true, recurses := true, apart := false }
def MasterTerminatesSaid : Prop := masterTerminatesRow.holds Try.pinned (OpenSpec.ofChange masterTerminatesSpec)

/-- ITS FALSE NEIGHBOUR: 'it returns false'. Refute it at one input. -/
def masterTerminatesWrong : ChangeSpec := { name := "masterTerminates", fn := fun _ => fun
  | [d] => { results := [.lit (.bool false)], args := [d] }
  | _ => none }
def MasterTerminatesWrongFalsely : Prop := masterTerminatesRow.holds Try.pinned (OpenSpec.ofChange masterTerminatesWrong)

/-- 'ceilinglaw33.MasterClosed': WHATEVER THE INPUT: true; the input reads as it did. -/
def masterClosedSpec : ChangeSpec := { name := "masterClosed", fn := fun _ => fun
  | [d1, d2] => { results := [.lit (.bool true)], args := [d1, d2] }
  | _ => none }
def masterClosedRow : OpenClaim := { program := "ytfggehkiglenjaa", sum := "0779a52350be1f0fee6a1eff69f7ef1de1aec8973d8ff2fff39836b0d424311c", func := "ceiling/ceilinglaw33.MasterClosed", spec := "masterClosed", unfollowed := true, recurses := true, apart := false }
def MasterClosedSaid : Prop := masterClosedRow.holds Try.pinned (OpenSpec.ofChange masterClosedSpec)

/-- ITS FALSE NEIGHBOUR: 'it returns false'. Refute it at one input. -/
def masterClosedWrong : ChangeSpec := { name := "masterClosed", fn := fun _ => fun
  | [d1, d2] => { results := [.lit (.bool false)], args := [d1, d2] }
  | _ => none }
def MasterClosedWrongFalsely : Prop := masterClosedRow.holds Try.pinned (OpenSpec.ofChange masterClosedWrong)

/-- 'ceilinglaw33.MasterForest': WHATEVER THE INPUT: true; the input reads as it did. -/
def masterForestSpec : ChangeSpec := { name := "masterForest", fn := fun _ => fun
  | [d] => { results := [.lit (.bool true)], args := [d] }
  | _ => none }
def masterForestRow : OpenClaim := { program := "ytfggehkiglenjaa", sum := "0779a52350be1f0fee6a1eff69f7ef1de1aec8973d8ff2fff39836b0d424311c", func := "ceiling/ceilinglaw33.MasterForest", spec := "masterForest", unfollowed := true, recurses := true, apart := false }
def MasterForestSaid : Prop := masterForestRow.holds Try.pinned (OpenSpec.ofChange masterForestSpec)

/-- ITS FALSE NEIGHBOUR: 'it returns false'. Refute it at one input. -/
def masterForestWrong : ChangeSpec := { name := "masterForest", fn := fun _ => fun
  | [d] => { results := [.lit (.bool false)], args := [d] }
  | _ => none }
def MasterForestWrongFalsely : Prop := masterForestRow.holds Try.pinned (OpenSpec.ofChange masterForestWrong)

/-- 'ceilinglaw33.MasterKnown': WHATEVER THE INPUT: true; the input reads as it did. -/
def masterKnownSpec : ChangeSpec := { name := "masterKnown", fn := fun _ => fun
  | [] => { results := [.lit (.bool true)], args := [] }
  | _ => none }
def masterKnownRow : OpenClaim := { program := "ytfggehkiglenjaa", sum := "0779a52350be1f0fee6a1eff69f7ef1de1aec8973d8ff2fff39836b0d424311c", func := "ceiling/ceilinglaw33.MasterKnown", spec := "masterKnown", unfollowed := true, recurses := true, apart := false }
def MasterKnownSaid : Prop := masterKnownRow.holds Try.pinned (OpenSpec.ofChange masterKnownSpec)

/-- ITS FALSE NEIGHBOUR: 'it returns false'. Refute it at one input. -/
def masterKnownWrong : ChangeSpec := { name := "masterKnown", fn := fun _ => fun
  | [] => { results := [.lit (.bool false)], args := [] }
  | _ => none }
def MasterKnownWrongFalsely : Prop := masterKnownRow.holds Try.pinned (OpenSpec.ofChange masterKnownWrong)

/- THE SECOND FORM. 'bulk': how many values and letters a reading holds, each counted each time it is reached (what is shared counts as often as it is met; a slice's spare places count too). A statement '..UptoSaid' is the law's where the arguments, and the package variables that the reading takes, are together of bulk at most 1048576: NARROWER than '..Said'. Prove '..Said' where nothing that the law and all that it calls make is longer than what came in: it says more and counts as full. Else prove '..UptoSaid'. A law counts once. -/
mutual
def uptoBulk {H : Type} : DataW H → Nat
  | .lit (.string bytes) => bytes.length + 1
  | .lit _ => 1
  | .nil => 1
  | .ptr d => uptoBulk d + 1
  | .slice elems spare => uptoBulkAll elems + uptoBulkAll spare + 1
  | .agg parts => uptoBulkAll parts + 1
  | .iface _ d => uptoBulk d + 1
  | .map entries => uptoBulkEntries entries + 1
  | .held _ => 1
def uptoBulkAll {H : Type} : List (DataW H) → Nat
  | [] => 0
  | d :: r => uptoBulk d + uptoBulkAll r
def uptoBulkEntries {H : Type} : List (Lit × DataW H) → Nat
  | [] => 0
  | x :: r => uptoBulkEntry x + uptoBulkEntries r
def uptoBulkEntry {H : Type} : Lit × DataW H → Nat
  | (.string bytes, d) => bytes.length + uptoBulk d + 1
  | (_, d) => uptoBulk d + 1
 end
def uptoSmall : (H : Type) → List (DataW H) → Bool := fun _ ds => decide (uptoBulkAll ds ≤ 1048576)
def OpenSpec.upto (s : _root_.Go.ChangeSpec) : _root_.Go.OpenSpec := { _root_.Go.OpenSpec.ofChange s with cond := some uptoSmall }

/-- 'ceilinglaw33.MasterAborts', WHERE WHAT IT READS IS OF BULK AT MOST 1048576: true; the input reads as it did. -/
def masterAbortsUptoRow : OpenClaim := { program := "ytfggehkiglenjaa", sum := "0779a52350be1f0fee6a1eff69f7ef1de1aec8973d8ff2fff39836b0d424311c", func := "ceiling/ceilinglaw33.MasterAborts", spec := "masterAborts", unfollowed := true, recurses := true, apart := false, narrowed := true }
def MasterAbortsUptoSaid : Prop := masterAbortsUptoRow.holds Try.pinned (OpenSpec.upto masterAbortsSpec)

/-- 'ceilinglaw33.MasterTerminates', WHERE WHAT IT READS IS OF BULK AT MOST 1048576: true; the input reads as it did. -/
def masterTerminatesUptoRow : OpenClaim := { program := "ytfggehkiglenjaa", sum := "0779a52350be1f0fee6a1eff69f7ef1de1aec8973d8ff2fff39836b0d424311c", func := "ceiling/ceilinglaw33.MasterTerminates", spec := "masterTerminates", unfollowed := true, recurses := true, apart := false, narrowed := true }
def MasterTerminatesUptoSaid : Prop := masterTerminatesUptoRow.holds Try.pinned (OpenSpec.upto masterTerminatesSpec)

/-- 'ceilinglaw33.MasterClosed', WHERE WHAT IT READS IS OF BULK AT MOST 1048576: true; the input reads as it did. -/
def masterClosedUptoRow : OpenClaim := { program := "ytfggehkiglenjaa", sum := "0779a52350be1f0fee6a1eff69f7ef1de1aec8973d8ff2fff39836b0d424311c", func := "ceiling/ceilinglaw33.MasterClosed", spec := "masterClosed", unfollowed := true, recurses := true, apart := false, narrowed := true }
def MasterClosedUptoSaid : Prop := masterClosedUptoRow.holds Try.pinned (OpenSpec.upto masterClosedSpec)

/-- 'ceilinglaw33.MasterForest', WHERE WHAT IT READS IS OF BULK AT MOST 1048576: true; the input reads as it did. -/
def masterForestUptoRow : OpenClaim := { program := "ytfggehkiglenjaa", sum := "0779a52350be1f0fee6a1eff69f7ef1de1aec8973d8ff2fff39836b0d424311c", func := "ceiling/ceilinglaw33.MasterForest", spec := "masterForest", unfollowed := true, recurses := true, apart := false, narrowed := true }
def MasterForestUptoSaid : Prop := masterForestUptoRow.holds Try.pinned (OpenSpec.upto masterForestSpec)

/-- 'ceilinglaw33.MasterKnown', WHERE WHAT IT READS IS OF BULK AT MOST 1048576: true; the input reads as it did. -/
def masterKnownUptoRow : OpenClaim := { program := "ytfggehkiglenjaa", sum := "0779a52350be1f0fee6a1eff69f7ef1de1aec8973d8ff2fff39836b0d424311c", func := "ceiling/ceilinglaw33.MasterKnown", spec := "masterKnown", unfollowed := true, recurses := true, apart := false, narrowed := true }
def MasterKnownUptoSaid : Prop := masterKnownUptoRow.holds Try.pinned (OpenSpec.upto masterKnownSpec)

end Rows
end Go.Proofs.Ytfggehkiglenjaa
