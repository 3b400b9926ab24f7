/-
  Known calls.
-/
import Derived.Test.YtffabbjfdgmbjaaGreatPk5
import Derived.Test.YtffabbjfdgmbjaaGreatPk7
set_option linter.all false
set_option linter.deprecated false
namespace Go.Proofs.YtffabbjfdgmbjaaGreat.Cl
open Go Go.Eng
set_option maxRecDepth 100000
theorem k3 : KcOk2 X ⟨41, [a68], a20⟩ := kc_of hX hG hI hS (E := E []) trivial (n := 64) (by kernel_rfl)
theorem k28 : KcOk2 X ⟨59, [a115], a20⟩ := kc_of hX hG hI hS (E := E []) trivial (n := 64) (by kernel_rfl)
theorem k29 : KcOk2 X ⟨42, [a115, a21], a20⟩ := kc_of hX hG hI hS (E := E [⟨59, [a115], a20⟩]) ⟨k28, trivial⟩ (n := 64) (by kernel_rfl)
theorem k30 : KcOk2 X ⟨41, [a119], a20⟩ := kc_of hX hG hI hS (E := E []) trivial (n := 64) (by kernel_rfl)
theorem k64 : KcOk2 X ⟨59, [a207], a20⟩ := kc_of hX hG hI hS (E := E []) trivial (n := 64) (by kernel_rfl)
theorem k65 : KcOk2 X ⟨42, [a207, a208], a20⟩ := kc_of hX hG hI hS (E := E [⟨59, [a207], a20⟩]) ⟨k64, trivial⟩ (n := 64) (by kernel_rfl)
theorem k66 : KcOk2 X ⟨59, [a211], a20⟩ := kc_of hX hG hI hS (E := E []) trivial (n := 64) (by kernel_rfl)
theorem k67 : KcOk2 X ⟨42, [a211, a21], a20⟩ := kc_of hX hG hI hS (E := E [⟨59, [a211], a20⟩]) ⟨k66, trivial⟩ (n := 64) (by kernel_rfl)
end Go.Proofs.YtffabbjfdgmbjaaGreat.Cl
