/-
  NARROWER THAN 'FOR EVERY INPUT', by the rows' own cells (each row's printed sentence says how): ProfileNamed: loops.
  DERIVED. THE GIVEN ROWS OF THIS SEAT. 3 by the template 'for every input the law returns true; each argument reads behind the call as it read before'; 0 by the template 'total and deterministic' (their statements: YtffabbjfdgmbjaaGreatTotals.lean).
  GIVEN WITH THE SEED: the statements are not yours to turn. If you find one false, say at which input.
  Laid BY PROGRAM, IN A SANDBOX (cutbox-rows.mjs): the forced cells as the released guide's own fill.sh prints them over the translation 87c9be55987600e1… (all of the seat's roots in one cut). By AI agents, Wed Nov 11 2026. No macro, syntax, notation, axiom, sorry.
-/
import Derived.Test.YtffabbjfdgmbjaaGreatChecked
import GoSem.Claim
import GoSem.ClaimJoined
import GoSem.ClaimMapViews
import Derived.JoinedTies
import Derived.KernelRfl
namespace Go.Proofs.YtffabbjfdgmbjaaGreat
/- THE CELL 'sum', in the pinned program and in every row, IS THE sha256 OF THE DUMP (.gsa) THAT YtffabbjfdgmbjaaGreatProg.lean LOADS. Nothing in Lean hashes anything: it is a label: what it is worth is what the hold of that sum in a sandbox is worth. -/
noncomputable def Tryz.pinned : Pinned := { name := "ytffabbjfdgmbjaagreat", sum := "87c9be55987600e1b31b4e06483ab4d204fc75fc29cec546c8b7c0d278a400b6", checked := Tryz.checked }
namespace Rows
def none {H : Type} : Left H := { results := [], args := [] }

/-- 'ceilinglaw37.ProfileBuilt': WHATEVER THE INPUT: true; the input reads as it did. -/
def profileBuiltSpec : ChangeSpec := { name := "profileBuilt", fn := fun _ => fun
  | [d1, d2] => { results := [.lit (.bool true)], args := [d1, d2] }
  | _ => none }
def profileBuiltRow : OpenClaim := { program := "ytffabbjfdgmbjaagreat", sum := "87c9be55987600e1b31b4e06483ab4d204fc75fc29cec546c8b7c0d278a400b6", func := "ceiling/ceilinglaw37.ProfileBuilt", spec := "profileBuilt", unfollowed := true, recurses := true, apart := false }
def ProfileBuiltSaid : Prop := profileBuiltRow.holds Tryz.pinned (OpenSpec.ofChange profileBuiltSpec)

/-- ITS FALSE NEIGHBOUR: 'it returns false'. Refute it at one input. -/
def profileBuiltWrong : ChangeSpec := { name := "profileBuilt", fn := fun _ => fun
  | [d1, d2] => { results := [.lit (.bool false)], args := [d1, d2] }
  | _ => none }
def ProfileBuiltWrongFalsely : Prop := profileBuiltRow.holds Tryz.pinned (OpenSpec.ofChange profileBuiltWrong)

/-- 'ceilinglaw37.ProfileNamed': WHATEVER THE INPUT: true; the input reads as it did. -/
def profileNamedSpec : ChangeSpec := { name := "profileNamed", fn := fun _ => fun
  | [d] => { results := [.lit (.bool true)], args := [d] }
  | _ => none }
def profileNamedRow : OpenClaim := { program := "ytffabbjfdgmbjaagreat", sum := "87c9be55987600e1b31b4e06483ab4d204fc75fc29cec546c8b7c0d278a400b6", func := "ceiling/ceilinglaw37.ProfileNamed", spec := "profileNamed", unfollowed := true, recurses := true, loops := true, apart := false }
def ProfileNamedSaid : Prop := profileNamedRow.holds Tryz.pinned (OpenSpec.ofChange profileNamedSpec)

/-- ITS FALSE NEIGHBOUR: 'it returns false'. Refute it at one input. -/
def profileNamedWrong : ChangeSpec := { name := "profileNamed", fn := fun _ => fun
  | [d] => { results := [.lit (.bool false)], args := [d] }
  | _ => none }
def ProfileNamedWrongFalsely : Prop := profileNamedRow.holds Tryz.pinned (OpenSpec.ofChange profileNamedWrong)

/-- 'ceilinglaw37.ProfileKnown': WHATEVER THE INPUT: true; the input reads as it did. -/
def profileKnownSpec : ChangeSpec := { name := "profileKnown", fn := fun _ => fun
  | [] => { results := [.lit (.bool true)], args := [] }
  | _ => none }
def profileKnownRow : OpenClaim := { program := "ytffabbjfdgmbjaagreat", sum := "87c9be55987600e1b31b4e06483ab4d204fc75fc29cec546c8b7c0d278a400b6", func := "ceiling/ceilinglaw37.ProfileKnown", spec := "profileKnown", unfollowed := true, recurses := true, apart := false }
def ProfileKnownSaid : Prop := profileKnownRow.holds Tryz.pinned (OpenSpec.ofChange profileKnownSpec)

/-- ITS FALSE NEIGHBOUR: 'it returns false'. Refute it at one input. -/
def profileKnownWrong : ChangeSpec := { name := "profileKnown", fn := fun _ => fun
  | [] => { results := [.lit (.bool false)], args := [] }
  | _ => none }
def ProfileKnownWrongFalsely : Prop := profileKnownRow.holds Tryz.pinned (OpenSpec.ofChange profileKnownWrong)

/- THE SECOND FORM. 'bulk': how many values and letters a reading holds, each counted each time it is reached (what is shared counts as often as it is met; a slice's spare places count too). A statement '..UptoSaid' is the law's where the arguments, and the package variables that the reading takes, are together of bulk at most 1048576: NARROWER than '..Said'. Prove '..Said' where nothing that the law and all that it calls make is longer than what came in: it says more and counts as full. Else prove '..UptoSaid'. A law counts once. -/
mutual
def uptoBulk {H : Type} : DataW H → Nat
  | .lit (.string bytes) => bytes.length + 1
  | .lit _ => 1
  | .nil => 1
  | .ptr d => uptoBulk d + 1
  | .slice elems spare => uptoBulkAll elems + uptoBulkAll spare + 1
  | .agg parts => uptoBulkAll parts + 1
  | .iface _ d => uptoBulk d + 1
  | .map entries => uptoBulkEntries entries + 1
  | .held _ => 1
def uptoBulkAll {H : Type} : List (DataW H) → Nat
  | [] => 0
  | d :: r => uptoBulk d + uptoBulkAll r
def uptoBulkEntries {H : Type} : List (Lit × DataW H) → Nat
  | [] => 0
  | x :: r => uptoBulkEntry x + uptoBulkEntries r
def uptoBulkEntry {H : Type} : Lit × DataW H → Nat
  | (.string bytes, d) => bytes.length + uptoBulk d + 1
  | (_, d) => uptoBulk d + 1
 end
def uptoSmall : (H : Type) → List (DataW H) → Bool := fun _ ds => decide (uptoBulkAll ds ≤ 1048576)
def OpenSpec.upto (s : _root_.Go.ChangeSpec) : _root_.Go.OpenSpec := { _root_.Go.OpenSpec.ofChange s with cond := some uptoSmall }

/-- 'ceilinglaw37.ProfileBuilt', WHERE WHAT IT READS IS OF BULK AT MOST 1048576: true; the input reads as it did. -/
def profileBuiltUptoRow : OpenClaim := { program := "ytffabbjfdgmbjaagreat", sum := "87c9be55987600e1b31b4e06483ab4d204fc75fc29cec546c8b7c0d278a400b6", func := "ceiling/ceilinglaw37.ProfileBuilt", spec := "profileBuilt", unfollowed := true, recurses := true, apart := false, narrowed := true }
def ProfileBuiltUptoSaid : Prop := profileBuiltUptoRow.holds Tryz.pinned (OpenSpec.upto profileBuiltSpec)

/-- 'ceilinglaw37.ProfileNamed', WHERE WHAT IT READS IS OF BULK AT MOST 1048576: true; the input reads as it did. -/
def profileNamedUptoRow : OpenClaim := { program := "ytffabbjfdgmbjaagreat", sum := "87c9be55987600e1b31b4e06483ab4d204fc75fc29cec546c8b7c0d278a400b6", func := "ceiling/ceilinglaw37.ProfileNamed", spec := "profileNamed", unfollowed := true, recurses := true, loops := true, apart := false, narrowed := true }
def ProfileNamedUptoSaid : Prop := profileNamedUptoRow.holds Tryz.pinned (OpenSpec.upto profileNamedSpec)

/-- 'ceilinglaw37.ProfileKnown', WHERE WHAT IT READS IS OF BULK AT MOST 1048576: true; the input reads as it did. -/
def profileKnownUptoRow : OpenClaim := { program := "ytffabbjfdgmbjaagreat", sum := "87c9be55987600e1b31b4e06483ab4d204fc75fc29cec546c8b7c0d278a400b6", func := "ceiling/ceilinglaw37.ProfileKnown", spec := "profileKnown", unfollowed := true, recurses := true, apart := false, narrowed := true }
def ProfileKnownUptoSaid : Prop := profileKnownUptoRow.holds Tryz.pinned (OpenSpec.upto profileKnownSpec)

end Rows
end Go.Proofs.YtffabbjfdgmbjaaGreat
