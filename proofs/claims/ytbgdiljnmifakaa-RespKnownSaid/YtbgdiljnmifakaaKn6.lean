/-
  What is proved: called with no argument, ceilinglaw39.RespKnown returns true, whatever the memory. No condition.
-/
import Derived.Test.YtbgdiljnmifakaaRows
import Derived.Test.YtbgdiljnmifakaaKn5
import Derived.WalkKit
import Derived.ProofKit
import Derived.OpenShut
set_option linter.all false
set_option linter.deprecated false
namespace Go.Proofs.Ytbgdiljnmifakaa
open Go Go.Eng Go.ChangeShapes Go.WideShapes Go.ChangeAt Go.RowKit

theorem own : ownKnob Try.prog.godebug = none := by kernel_rfl
theorem laidOut : laidOutB Try.prog = true := by kernel_rfl

set_option maxRecDepth 100000 in
theorem lifted8 (os : Os) (started : os.Started) (H : Type) (enc : TypeId × Value → H) :
    ReturnsInHanded {} Try.checked os 8 .any (Rows.respKnownSpec.pre6 enc Try.prog Try.f8 Rows.respKnownRow.domain false) (Rows.respKnownSpec.post enc Try.prog Try.f8 false true false false) := by
  refine returnsInHanded_of_change (C := Try.checked) own started (by kernel_rfl) Try.func8
    (ChangeSpec.witness6 (enc := enc) (C := Try.checked) false ⟨#[], #[], []⟩ 8 (by kernel_rfl) (by kernel_rfl) (by kernel_rfl) (by kernel_rfl)) ?_
  intro W base args ds gs before hval hW _ _
  exact law_closed (X := Cl.X) laidOut (tb := 4) (by kernel_rfl) (by kernel_rfl) Try.underlying4 rfl rfl Cl.law8 W (fun g => .top _) args ds gs before hW

theorem respKnown_holds : Rows.RespKnownSaid :=
  OpenClaim.holds_of_wide 8 Try.f8 rfl rfl rfl rfl rfl rfl rfl ⟨rfl, rfl, rfl, rfl, rfl⟩ rfl rfl rfl rfl rfl (by kernel_rfl) Try.func8 (by kernel_rfl)
    (of_decide_eq_true (by kernel_rfl)) (by unfold Func.isWrapper; first | (rw [if_pos (by decide +kernel)]; kernel_rfl) | (rw [if_neg (by decide +kernel)]; exact ⟨rfl, rfl⟩))
    (fun os started H enc _ => lifted8 os started H enc)

#print axioms respKnown_holds
end Go.Proofs.Ytbgdiljnmifakaa
