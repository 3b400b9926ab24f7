/-
  What is proved: ceilinglaw37.ProfileNamed returns true for every input of bulk at most 1048576, and leaves its arguments as they were, whatever the memory. No other condition.
-/
import Derived.Test.YtffabbjfdgmbjaaGreatRows
import Derived.Test.YtffabbjfdgmbjaaGreatW7
import Derived.Test.YtffabbjfdgmbjaaGreatW8
import Derived.WalkKit
import Derived.ProofKit
import Derived.OpenShut
import Derived.LaidMore
import Derived.Stop.Joined
import Derived.SevenTiedAt
import Derived.MakeChecks
import Derived.Lib.LaidTab
import Derived.Deep.DeepHandedRow
set_option linter.all false
set_option linter.deprecated false
set_option maxHeartbeats 4000000
namespace Go.Proofs.YtffabbjfdgmbjaaGreat
open Go Go.ah Go.ChangeShapes Go.WideShapes Go.ChangeAt Go.RowKit B
theorem profileNamedUpto_holds:Rows.ProfileNamedUptoSaid:=
 OpenClaim.holds_of_cond 4 Tryz.f4 rfl rfl rfl rfl rfl rfl rfl ⟨rfl,rfl,rfl,rfl,rfl⟩ rfl rfl rfl rfl rfl (by kernel_rfl) Tryz.func4 aMR
  (Um (by kernel_rfl)) (by unfold Func.isWrapper;first|(rw [if_pos (by decide+kernel)];kernel_rfl)|(rw [if_neg (by decide+kernel)];exact⟨rfl,rfl⟩))
  (λos started H enc _ F=>by rw [OpenClaim.pre_eq_preRow];exact aMm os started H enc F)
#print axioms profileNamedUpto_holds
end Go.Proofs.YtffabbjfdgmbjaaGreat
