/-
  Known calls.
-/
import Derived.Test.YtffabbjfdgmbjaaGreatPk5
import Derived.Test.YtffabbjfdgmbjaaGreatPk12
set_option linter.all false
set_option linter.deprecated false
namespace Go.Proofs.YtffabbjfdgmbjaaGreat.Cl
open Go Go.Eng
set_option maxRecDepth 100000
theorem k15 : KcOk2 X ⟨41, [a93], a20⟩ := kc_of hX hG hI hS (E := E []) trivial (n := 64) (by kernel_rfl)
theorem k16 : KcOk2 X ⟨59, [a93], a20⟩ := kc_of hX hG hI hS (E := E []) trivial (n := 64) (by kernel_rfl)
theorem k17 : KcOk2 X ⟨42, [a93, a21], a20⟩ := kc_of hX hG hI hS (E := E [⟨59, [a93], a20⟩]) ⟨k16, trivial⟩ (n := 64) (by kernel_rfl)
theorem k57 : KcOk2 X ⟨59, [a196], a3⟩ := kc_of hX hG hI hS (E := E []) trivial (n := 64) (by kernel_rfl)
theorem k58 : KcOk2 X ⟨42, [a196, a197], a20⟩ := kc_of hX hG hI hS (E := E [⟨59, [a196], a3⟩]) ⟨k57, trivial⟩ (n := 64) (by kernel_rfl)
theorem k61 : KcOk2 X ⟨59, [a199], a20⟩ := kc_of hX hG hI hS (E := E []) trivial (n := 64) (by kernel_rfl)
theorem k68 : KcOk2 X ⟨59, [a223], a20⟩ := kc_of hX hG hI hS (E := E []) trivial (n := 64) (by kernel_rfl)
theorem k69 : KcOk2 X ⟨42, [a223, a21], a20⟩ := kc_of hX hG hI hS (E := E [⟨59, [a223], a20⟩]) ⟨k68, trivial⟩ (n := 64) (by kernel_rfl)
theorem k70 : KcOk2 X ⟨59, [a231], a20⟩ := kc_of hX hG hI hS (E := E []) trivial (n := 64) (by kernel_rfl)
theorem k71 : KcOk2 X ⟨42, [a231, a21], a20⟩ := kc_of hX hG hI hS (E := E [⟨59, [a231], a20⟩]) ⟨k70, trivial⟩ (n := 64) (by kernel_rfl)
end Go.Proofs.YtffabbjfdgmbjaaGreat.Cl
