/-
  Known calls.
-/
import Derived.Test.YtffabbjfdgmbjaaGreatPk5
import Derived.Test.YtffabbjfdgmbjaaGreatPk9
set_option linter.all false
set_option linter.deprecated false
namespace Go.Proofs.YtffabbjfdgmbjaaGreat.Cl
open Go Go.Eng
set_option maxRecDepth 100000
theorem k10 : KcOk2 X ⟨59, [a82], a20⟩ := kc_of hX hG hI hS (E := E []) trivial (n := 64) (by kernel_rfl)
theorem k11 : KcOk2 X ⟨42, [a82, a21], a20⟩ := kc_of hX hG hI hS (E := E [⟨59, [a82], a20⟩]) ⟨k10, trivial⟩ (n := 64) (by kernel_rfl)
theorem k21 : KcOk2 X ⟨41, [a103], a20⟩ := kc_of hX hG hI hS (E := E []) trivial (n := 64) (by kernel_rfl)
theorem k36 : KcOk2 X ⟨41, [a134], a20⟩ := kc_of hX hG hI hS (E := E []) trivial (n := 64) (by kernel_rfl)
theorem k39 : KcOk2 X ⟨41, [a142], a20⟩ := kc_of hX hG hI hS (E := E []) trivial (n := 64) (by kernel_rfl)
theorem k43 : KcOk2 X ⟨59, [a150], a20⟩ := kc_of hX hG hI hS (E := E []) trivial (n := 64) (by kernel_rfl)
theorem k44 : KcOk2 X ⟨42, [a150, a21], a20⟩ := kc_of hX hG hI hS (E := E [⟨59, [a150], a20⟩]) ⟨k43, trivial⟩ (n := 64) (by kernel_rfl)
theorem k46 : KcOk2 X ⟨59, [a159], a20⟩ := kc_of hX hG hI hS (E := E []) trivial (n := 64) (by kernel_rfl)
theorem k47 : KcOk2 X ⟨42, [a159, a21], a20⟩ := kc_of hX hG hI hS (E := E [⟨59, [a159], a20⟩]) ⟨k46, trivial⟩ (n := 64) (by kernel_rfl)
end Go.Proofs.YtffabbjfdgmbjaaGreat.Cl
