/-
  No cell of these rows narrows 'for every input' (looked for: loops, veiled, ifaces, maps, wideKeys, modest, calm, conditions, laid).
  DERIVED. THE GIVEN ROWS OF THIS SEAT. 9 by the template 'for every input the law returns true; each argument reads behind the call as it read before'; 0 by the template 'total and deterministic' (their statements: YtnfmdenclkdmbaaTotals.lean).
  GIVEN WITH THE SEED: the statements are not yours to turn. If you find one false, say at which input.
  Laid BY PROGRAM, IN A SANDBOX (cutbox-rows.mjs): the forced cells as the released guide's own fill.sh prints them over the translation e112470e514c0f24… (all of the seat's roots in one cut). By AI agents, Wed Nov 11 2026. No macro, syntax, notation, axiom, sorry.
-/
import Derived.Test.YtnfmdenclkdmbaaChecked
import GoSem.Claim
import GoSem.ClaimJoined
import GoSem.ClaimMapViews
import Derived.JoinedTies
import Derived.KernelRfl
namespace Go.Proofs.Ytnfmdenclkdmbaa
/- THE CELL 'sum', in the pinned program and in every row, IS THE sha256 OF THE DUMP (.gsa) THAT YtnfmdenclkdmbaaProg.lean LOADS. Nothing in Lean hashes anything: it is a label: what it is worth is what the hold of that sum in a sandbox is worth. -/
noncomputable def Try.pinned : Pinned := { name := "ytnfmdenclkdmbaa", sum := "e112470e514c0f247e6fd2d2fa04c92e0772d682b71b841c983baaefce0c8674", checked := Try.checked }
namespace Rows
def none {H : Type} : Left H := { results := [], args := [] }

/-- 'ceilinglaw01.NumApply': WHATEVER THE INPUT: true; the input reads as it did. -/
def numApplySpec : ChangeSpec := { name := "numApply", fn := fun _ => fun
  | [d1, d2, d3] => { results := [.lit (.bool true)], args := [d1, d2, d3] }
  | _ => none }
def numApplyRow : OpenClaim := { program := "ytnfmdenclkdmbaa", sum := "e112470e514c0f247e6fd2d2fa04c92e0772d682b71b841c983baaefce0c8674", func := "ceiling/ceilinglaw01.NumApply", spec := "numApply", unfollowed := true, recurses := true, apart := false }
def NumApplySaid : Prop := numApplyRow.holds Try.pinned (OpenSpec.ofChange numApplySpec)

/-- ITS FALSE NEIGHBOUR: 'it returns false'. Refute it at one input. -/
def numApplyWrong : ChangeSpec := { name := "numApply", fn := fun _ => fun
  | [d1, d2, d3] => { results := [.lit (.bool false)], args := [d1, d2, d3] }
  | _ => none }
def NumApplyWrongFalsely : Prop := numApplyRow.holds Try.pinned (OpenSpec.ofChange numApplyWrong)

/-- 'ceilinglaw01.NumWrap': WHATEVER THE INPUT: true; the input reads as it did. -/
def numWrapSpec : ChangeSpec := { name := "numWrap", fn := fun _ => fun
  | [d1, d2, d3] => { results := [.lit (.bool true)], args := [d1, d2, d3] }
  | _ => none }
def numWrapRow : OpenClaim := { program := "ytnfmdenclkdmbaa", sum := "e112470e514c0f247e6fd2d2fa04c92e0772d682b71b841c983baaefce0c8674", func := "ceiling/ceilinglaw01.NumWrap", spec := "numWrap", unfollowed := true, recurses := true, apart := false }
def NumWrapSaid : Prop := numWrapRow.holds Try.pinned (OpenSpec.ofChange numWrapSpec)

/-- ITS FALSE NEIGHBOUR: 'it returns false'. Refute it at one input. -/
def numWrapWrong : ChangeSpec := { name := "numWrap", fn := fun _ => fun
  | [d1, d2, d3] => { results := [.lit (.bool false)], args := [d1, d2, d3] }
  | _ => none }
def NumWrapWrongFalsely : Prop := numWrapRow.holds Try.pinned (OpenSpec.ofChange numWrapWrong)

/-- 'ceilinglaw01.NumRange': WHATEVER THE INPUT: true; the input reads as it did. -/
def numRangeSpec : ChangeSpec := { name := "numRange", fn := fun _ => fun
  | [d1, d2, d3] => { results := [.lit (.bool true)], args := [d1, d2, d3] }
  | _ => none }
def numRangeRow : OpenClaim := { program := "ytnfmdenclkdmbaa", sum := "e112470e514c0f247e6fd2d2fa04c92e0772d682b71b841c983baaefce0c8674", func := "ceiling/ceilinglaw01.NumRange", spec := "numRange", unfollowed := true, recurses := true, apart := false }
def NumRangeSaid : Prop := numRangeRow.holds Try.pinned (OpenSpec.ofChange numRangeSpec)

/-- ITS FALSE NEIGHBOUR: 'it returns false'. Refute it at one input. -/
def numRangeWrong : ChangeSpec := { name := "numRange", fn := fun _ => fun
  | [d1, d2, d3] => { results := [.lit (.bool false)], args := [d1, d2, d3] }
  | _ => none }
def NumRangeWrongFalsely : Prop := numRangeRow.holds Try.pinned (OpenSpec.ofChange numRangeWrong)

/-- 'ceilinglaw01.NumAgrees': WHATEVER THE INPUT: true; the input reads as it did. -/
def numAgreesSpec : ChangeSpec := { name := "numAgrees", fn := fun _ => fun
  | [d1, d2, d3] => { results := [.lit (.bool true)], args := [d1, d2, d3] }
  | _ => none }
def numAgreesRow : OpenClaim := { program := "ytnfmdenclkdmbaa", sum := "e112470e514c0f247e6fd2d2fa04c92e0772d682b71b841c983baaefce0c8674", func := "ceiling/ceilinglaw01.NumAgrees", spec := "numAgrees", unfollowed := true, recurses := true, apart := false }
def NumAgreesSaid : Prop := numAgreesRow.holds Try.pinned (OpenSpec.ofChange numAgreesSpec)

/-- ITS FALSE NEIGHBOUR: 'it returns false'. Refute it at one input. -/
def numAgreesWrong : ChangeSpec := { name := "numAgrees", fn := fun _ => fun
  | [d1, d2, d3] => { results := [.lit (.bool false)], args := [d1, d2, d3] }
  | _ => none }
def NumAgreesWrongFalsely : Prop := numAgreesRow.holds Try.pinned (OpenSpec.ofChange numAgreesWrong)

/-- 'ceilinglaw01.NumSound': WHATEVER THE INPUT: true; the input reads as it did. -/
def numSoundSpec : ChangeSpec := { name := "numSound", fn := fun _ => fun
  | [d1, d2, d3, d4, d5] => { results := [.lit (.bool true)], args := [d1, d2, d3, d4, d5] }
  | _ => none }
def numSoundRow : OpenClaim := { program := "ytnfmdenclkdmbaa", sum := "e112470e514c0f247e6fd2d2fa04c92e0772d682b71b841c983baaefce0c8674", func := "ceiling/ceilinglaw01.NumSound", spec := "numSound", unfollowed := true, recurses := true, apart := false }
def NumSoundSaid : Prop := numSoundRow.holds Try.pinned (OpenSpec.ofChange numSoundSpec)

/-- ITS FALSE NEIGHBOUR: 'it returns false'. Refute it at one input. -/
def numSoundWrong : ChangeSpec := { name := "numSound", fn := fun _ => fun
  | [d1, d2, d3, d4, d5] => { results := [.lit (.bool false)], args := [d1, d2, d3, d4, d5] }
  | _ => none }
def NumSoundWrongFalsely : Prop := numSoundRow.holds Try.pinned (OpenSpec.ofChange numSoundWrong)

/-- 'ceilinglaw01.NumEnds': WHATEVER THE INPUT: true; the input reads as it did. -/
def numEndsSpec : ChangeSpec := { name := "numEnds", fn := fun _ => fun
  | [d1, d2, d3] => { results := [.lit (.bool true)], args := [d1, d2, d3] }
  | _ => none }
def numEndsRow : OpenClaim := { program := "ytnfmdenclkdmbaa", sum := "e112470e514c0f247e6fd2d2fa04c92e0772d682b71b841c983baaefce0c8674", func := "ceiling/ceilinglaw01.NumEnds", spec := "numEnds", unfollowed := true, recurses := true, apart := false }
def NumEndsSaid : Prop := numEndsRow.holds Try.pinned (OpenSpec.ofChange numEndsSpec)

/-- ITS FALSE NEIGHBOUR: 'it returns false'. Refute it at one input. -/
def numEndsWrong : ChangeSpec := { name := "numEnds", fn := fun _ => fun
  | [d1, d2, d3] => { results := [.lit (.bool false)], args := [d1, d2, d3] }
  | _ => none }
def NumEndsWrongFalsely : Prop := numEndsRow.holds Try.pinned (OpenSpec.ofChange numEndsWrong)

/-- 'ceilinglaw01.NumExact': WHATEVER THE INPUT: true; the input reads as it did. -/
def numExactSpec : ChangeSpec := { name := "numExact", fn := fun _ => fun
  | [d1, d2, d3, d4, d5] => { results := [.lit (.bool true)], args := [d1, d2, d3, d4, d5] }
  | _ => none }
def numExactRow : OpenClaim := { program := "ytnfmdenclkdmbaa", sum := "e112470e514c0f247e6fd2d2fa04c92e0772d682b71b841c983baaefce0c8674", func := "ceiling/ceilinglaw01.NumExact", spec := "numExact", unfollowed := true, recurses := true, apart := false }
def NumExactSaid : Prop := numExactRow.holds Try.pinned (OpenSpec.ofChange numExactSpec)

/-- ITS FALSE NEIGHBOUR: 'it returns false'. Refute it at one input. -/
def numExactWrong : ChangeSpec := { name := "numExact", fn := fun _ => fun
  | [d1, d2, d3, d4, d5] => { results := [.lit (.bool false)], args := [d1, d2, d3, d4, d5] }
  | _ => none }
def NumExactWrongFalsely : Prop := numExactRow.holds Try.pinned (OpenSpec.ofChange numExactWrong)

/-- 'ceilinglaw01.NumIvals': WHATEVER THE INPUT: true; the input reads as it did. -/
def numIvalsSpec : ChangeSpec := { name := "numIvals", fn := fun _ => fun
  | [d1, d2, d3, d4] => { results := [.lit (.bool true)], args := [d1, d2, d3, d4] }
  | _ => none }
def numIvalsRow : OpenClaim := { program := "ytnfmdenclkdmbaa", sum := "e112470e514c0f247e6fd2d2fa04c92e0772d682b71b841c983baaefce0c8674", func := "ceiling/ceilinglaw01.NumIvals", spec := "numIvals", unfollowed := true, recurses := true, apart := false }
def NumIvalsSaid : Prop := numIvalsRow.holds Try.pinned (OpenSpec.ofChange numIvalsSpec)

/-- ITS FALSE NEIGHBOUR: 'it returns false'. Refute it at one input. -/
def numIvalsWrong : ChangeSpec := { name := "numIvals", fn := fun _ => fun
  | [d1, d2, d3, d4] => { results := [.lit (.bool false)], args := [d1, d2, d3, d4] }
  | _ => none }
def NumIvalsWrongFalsely : Prop := numIvalsRow.holds Try.pinned (OpenSpec.ofChange numIvalsWrong)

/-- 'ceilinglaw01.NumJoins': WHATEVER THE INPUT: true; the input reads as it did. -/
def numJoinsSpec : ChangeSpec := { name := "numJoins", fn := fun _ => fun
  | [d1, d2, d3, d4] => { results := [.lit (.bool true)], args := [d1, d2, d3, d4] }
  | _ => none }
def numJoinsRow : OpenClaim := { program := "ytnfmdenclkdmbaa", sum := "e112470e514c0f247e6fd2d2fa04c92e0772d682b71b841c983baaefce0c8674", func := "ceiling/ceilinglaw01.NumJoins", spec := "numJoins", unfollowed := true, recurses := true, apart := false }
def NumJoinsSaid : Prop := numJoinsRow.holds Try.pinned (OpenSpec.ofChange numJoinsSpec)

/-- ITS FALSE NEIGHBOUR: 'it returns false'. Refute it at one input. -/
def numJoinsWrong : ChangeSpec := { name := "numJoins", fn := fun _ => fun
  | [d1, d2, d3, d4] => { results := [.lit (.bool false)], args := [d1, d2, d3, d4] }
  | _ => none }
def NumJoinsWrongFalsely : Prop := numJoinsRow.holds Try.pinned (OpenSpec.ofChange numJoinsWrong)

/- THE SECOND FORM. 'bulk': how many values and letters a reading holds, each counted each time it is reached (what is shared counts as often as it is met; a slice's spare places count too). A statement '..UptoSaid' is the law's where the arguments, and the package variables that the reading takes, are together of bulk at most 1048576: NARROWER than '..Said'. Prove '..Said' where nothing that the law and all that it calls make is longer than what came in: it says more and counts as full. Else prove '..UptoSaid'. A law counts once. -/
mutual
def uptoBulk {H : Type} : DataW H → Nat
  | .lit (.string bytes) => bytes.length + 1
  | .lit _ => 1
  | .nil => 1
  | .ptr d => uptoBulk d + 1
  | .slice elems spare => uptoBulkAll elems + uptoBulkAll spare + 1
  | .agg parts => uptoBulkAll parts + 1
  | .iface _ d => uptoBulk d + 1
  | .map entries => uptoBulkEntries entries + 1
  | .held _ => 1
def uptoBulkAll {H : Type} : List (DataW H) → Nat
  | [] => 0
  | d :: r => uptoBulk d + uptoBulkAll r
def uptoBulkEntries {H : Type} : List (Lit × DataW H) → Nat
  | [] => 0
  | x :: r => uptoBulkEntry x + uptoBulkEntries r
def uptoBulkEntry {H : Type} : Lit × DataW H → Nat
  | (.string bytes, d) => bytes.length + uptoBulk d + 1
  | (_, d) => uptoBulk d + 1
 end
def uptoSmall : (H : Type) → List (DataW H) → Bool := fun _ ds => decide (uptoBulkAll ds ≤ 1048576)
def OpenSpec.upto (s : _root_.Go.ChangeSpec) : _root_.Go.OpenSpec := { _root_.Go.OpenSpec.ofChange s with cond := some uptoSmall }

/-- 'ceilinglaw01.NumApply', WHERE WHAT IT READS IS OF BULK AT MOST 1048576: true; the input reads as it did. -/
def numApplyUptoRow : OpenClaim := { program := "ytnfmdenclkdmbaa", sum := "e112470e514c0f247e6fd2d2fa04c92e0772d682b71b841c983baaefce0c8674", func := "ceiling/ceilinglaw01.NumApply", spec := "numApply", unfollowed := true, recurses := true, apart := false, narrowed := true }
def NumApplyUptoSaid : Prop := numApplyUptoRow.holds Try.pinned (OpenSpec.upto numApplySpec)

/-- 'ceilinglaw01.NumWrap', WHERE WHAT IT READS IS OF BULK AT MOST 1048576: true; the input reads as it did. -/
def numWrapUptoRow : OpenClaim := { program := "ytnfmdenclkdmbaa", sum := "e112470e514c0f247e6fd2d2fa04c92e0772d682b71b841c983baaefce0c8674", func := "ceiling/ceilinglaw01.NumWrap", spec := "numWrap", unfollowed := true, recurses := true, apart := false, narrowed := true }
def NumWrapUptoSaid : Prop := numWrapUptoRow.holds Try.pinned (OpenSpec.upto numWrapSpec)

/-- 'ceilinglaw01.NumRange', WHERE WHAT IT READS IS OF BULK AT MOST 1048576: true; the input reads as it did. -/
def numRangeUptoRow : OpenClaim := { program := "ytnfmdenclkdmbaa", sum := "e112470e514c0f247e6fd2d2fa04c92e0772d682b71b841c983baaefce0c8674", func := "ceiling/ceilinglaw01.NumRange", spec := "numRange", unfollowed := true, recurses := true, apart := false, narrowed := true }
def NumRangeUptoSaid : Prop := numRangeUptoRow.holds Try.pinned (OpenSpec.upto numRangeSpec)

/-- 'ceilinglaw01.NumAgrees', WHERE WHAT IT READS IS OF BULK AT MOST 1048576: true; the input reads as it did. -/
def numAgreesUptoRow : OpenClaim := { program := "ytnfmdenclkdmbaa", sum := "e112470e514c0f247e6fd2d2fa04c92e0772d682b71b841c983baaefce0c8674", func := "ceiling/ceilinglaw01.NumAgrees", spec := "numAgrees", unfollowed := true, recurses := true, apart := false, narrowed := true }
def NumAgreesUptoSaid : Prop := numAgreesUptoRow.holds Try.pinned (OpenSpec.upto numAgreesSpec)

/-- 'ceilinglaw01.NumSound', WHERE WHAT IT READS IS OF BULK AT MOST 1048576: true; the input reads as it did. -/
def numSoundUptoRow : OpenClaim := { program := "ytnfmdenclkdmbaa", sum := "e112470e514c0f247e6fd2d2fa04c92e0772d682b71b841c983baaefce0c8674", func := "ceiling/ceilinglaw01.NumSound", spec := "numSound", unfollowed := true, recurses := true, apart := false, narrowed := true }
def NumSoundUptoSaid : Prop := numSoundUptoRow.holds Try.pinned (OpenSpec.upto numSoundSpec)

/-- 'ceilinglaw01.NumEnds', WHERE WHAT IT READS IS OF BULK AT MOST 1048576: true; the input reads as it did. -/
def numEndsUptoRow : OpenClaim := { program := "ytnfmdenclkdmbaa", sum := "e112470e514c0f247e6fd2d2fa04c92e0772d682b71b841c983baaefce0c8674", func := "ceiling/ceilinglaw01.NumEnds", spec := "numEnds", unfollowed := true, recurses := true, apart := false, narrowed := true }
def NumEndsUptoSaid : Prop := numEndsUptoRow.holds Try.pinned (OpenSpec.upto numEndsSpec)

/-- 'ceilinglaw01.NumExact', WHERE WHAT IT READS IS OF BULK AT MOST 1048576: true; the input reads as it did. -/
def numExactUptoRow : OpenClaim := { program := "ytnfmdenclkdmbaa", sum := "e112470e514c0f247e6fd2d2fa04c92e0772d682b71b841c983baaefce0c8674", func := "ceiling/ceilinglaw01.NumExact", spec := "numExact", unfollowed := true, recurses := true, apart := false, narrowed := true }
def NumExactUptoSaid : Prop := numExactUptoRow.holds Try.pinned (OpenSpec.upto numExactSpec)

/-- 'ceilinglaw01.NumIvals', WHERE WHAT IT READS IS OF BULK AT MOST 1048576: true; the input reads as it did. -/
def numIvalsUptoRow : OpenClaim := { program := "ytnfmdenclkdmbaa", sum := "e112470e514c0f247e6fd2d2fa04c92e0772d682b71b841c983baaefce0c8674", func := "ceiling/ceilinglaw01.NumIvals", spec := "numIvals", unfollowed := true, recurses := true, apart := false, narrowed := true }
def NumIvalsUptoSaid : Prop := numIvalsUptoRow.holds Try.pinned (OpenSpec.upto numIvalsSpec)

/-- 'ceilinglaw01.NumJoins', WHERE WHAT IT READS IS OF BULK AT MOST 1048576: true; the input reads as it did. -/
def numJoinsUptoRow : OpenClaim := { program := "ytnfmdenclkdmbaa", sum := "e112470e514c0f247e6fd2d2fa04c92e0772d682b71b841c983baaefce0c8674", func := "ceiling/ceilinglaw01.NumJoins", spec := "numJoins", unfollowed := true, recurses := true, apart := false, narrowed := true }
def NumJoinsUptoSaid : Prop := numJoinsUptoRow.holds Try.pinned (OpenSpec.upto numJoinsSpec)

end Rows
end Go.Proofs.Ytnfmdenclkdmbaa
