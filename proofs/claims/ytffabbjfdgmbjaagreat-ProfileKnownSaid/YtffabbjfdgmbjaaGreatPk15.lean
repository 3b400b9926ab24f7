/-
  ceiling/ceilinglaw37.ProfileKnown, run closed: the outcome.
  What is proved: called with no argument, ceilinglaw37.ProfileKnown returns true, whatever the memory. No condition.
-/
import Derived.Test.YtffabbjfdgmbjaaGreatPk14
import Derived.Test.YtffabbjfdgmbjaaGreatRows
import Derived.WalkKit
import Derived.ProofKit
import Derived.OpenShut
set_option linter.all false
set_option linter.deprecated false
namespace Go.Proofs.YtffabbjfdgmbjaaGreat.Cl
open Go Go.Eng
set_option maxRecDepth 100000
theorem hKS5 : AllE (KcOk2 X) KS5 := ⟨k0, k2, k3, k5, k6, k8, k9, k11, k12, k14, k15, k17, k18, k20, k21, k23, k24, k26, k27, k29, k30, k32, k33, k35, k36, k38, k39, k41, k42, k44, k45, k47, k48, k50, k51, k53, k54, k56, k58, k60, k72, trivial⟩
theorem law5 : ACalls X 5 [] [] (.bool true) [] := closed_run2 (E := E KS5) hX hG hI hS hKS5 run5
end Go.Proofs.YtffabbjfdgmbjaaGreat.Cl

namespace Go.Proofs.YtffabbjfdgmbjaaGreat
open Go Go.Eng Go.ChangeShapes Go.WideShapes Go.ChangeAt Go.RowKit

theorem own : ownKnob Tryz.prog.godebug = none := by kernel_rfl
theorem laidOut : laidOutB Tryz.prog = true := by kernel_rfl

set_option maxRecDepth 100000 in
theorem lifted5 (os : Os) (started : os.Started) (H : Type) (enc : TypeId × Value → H) :
    ReturnsInHanded {} Tryz.checked os 5 .any (Rows.profileKnownSpec.pre6 enc Tryz.prog Tryz.f5 Rows.profileKnownRow.domain false) (Rows.profileKnownSpec.post enc Tryz.prog Tryz.f5 false true false false) := by
  refine returnsInHanded_of_change (C := Tryz.checked) own started (by kernel_rfl) Tryz.func5
    (ChangeSpec.witness6 (enc := enc) (C := Tryz.checked) false ⟨#[], #[], []⟩ 8 (by kernel_rfl) (by kernel_rfl) (by kernel_rfl) (by kernel_rfl)) ?_
  intro W base args ds gs before hval hW _ _
  exact law_closed (X := Cl.X) laidOut (tb := 4) (by kernel_rfl) (by kernel_rfl) Tryz.underlying4 rfl rfl Cl.law5 W (fun g => .top _) args ds gs before hW

theorem profileKnown_holds : Rows.ProfileKnownSaid :=
  OpenClaim.holds_of_wide 5 Tryz.f5 rfl rfl rfl rfl rfl rfl rfl ⟨rfl, rfl, rfl, rfl, rfl⟩ rfl rfl rfl rfl rfl (by kernel_rfl) Tryz.func5 (by kernel_rfl)
    (of_decide_eq_true (by kernel_rfl)) (by unfold Func.isWrapper; first | (rw [if_pos (by decide +kernel)]; kernel_rfl) | (rw [if_neg (by decide +kernel)]; exact ⟨rfl, rfl⟩))
    (fun os started H enc _ => lifted5 os started H enc)

#print axioms profileKnown_holds
end Go.Proofs.YtffabbjfdgmbjaaGreat
