/-
  Known calls.
-/
import Derived.Test.YtffabbjfdgmbjaaGreatPk5
import Derived.Test.YtffabbjfdgmbjaaGreatPk8
set_option linter.all false
set_option linter.deprecated false
namespace Go.Proofs.YtffabbjfdgmbjaaGreat.Cl
open Go Go.Eng
set_option maxRecDepth 100000
theorem k13 : KcOk2 X ⟨59, [a87], a20⟩ := kc_of hX hG hI hS (E := E []) trivial (n := 64) (by kernel_rfl)
theorem k14 : KcOk2 X ⟨42, [a87, a21], a20⟩ := kc_of hX hG hI hS (E := E [⟨59, [a87], a20⟩]) ⟨k13, trivial⟩ (n := 64) (by kernel_rfl)
theorem k22 : KcOk2 X ⟨59, [a103], a20⟩ := kc_of hX hG hI hS (E := E []) trivial (n := 64) (by kernel_rfl)
theorem k23 : KcOk2 X ⟨42, [a103, a21], a20⟩ := kc_of hX hG hI hS (E := E [⟨59, [a103], a20⟩]) ⟨k22, trivial⟩ (n := 64) (by kernel_rfl)
theorem k24 : KcOk2 X ⟨41, [a108], a20⟩ := kc_of hX hG hI hS (E := E []) trivial (n := 64) (by kernel_rfl)
theorem k27 : KcOk2 X ⟨41, [a115], a20⟩ := kc_of hX hG hI hS (E := E []) trivial (n := 64) (by kernel_rfl)
theorem k52 : KcOk2 X ⟨59, [a184], a20⟩ := kc_of hX hG hI hS (E := E []) trivial (n := 64) (by kernel_rfl)
theorem k53 : KcOk2 X ⟨42, [a184, a21], a20⟩ := kc_of hX hG hI hS (E := E [⟨59, [a184], a20⟩]) ⟨k52, trivial⟩ (n := 64) (by kernel_rfl)
theorem k59 : KcOk2 X ⟨59, [a198], a3⟩ := kc_of hX hG hI hS (E := E []) trivial (n := 64) (by kernel_rfl)
theorem k60 : KcOk2 X ⟨42, [a198, a197], a20⟩ := kc_of hX hG hI hS (E := E [⟨59, [a198], a3⟩]) ⟨k59, trivial⟩ (n := 64) (by kernel_rfl)
end Go.Proofs.YtffabbjfdgmbjaaGreat.Cl
