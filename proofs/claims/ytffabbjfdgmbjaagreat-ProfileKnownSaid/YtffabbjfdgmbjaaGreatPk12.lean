/-
  Known calls.
-/
import Derived.Test.YtffabbjfdgmbjaaGreatPk5
import Derived.Test.YtffabbjfdgmbjaaGreatPk11
set_option linter.all false
set_option linter.deprecated false
namespace Go.Proofs.YtffabbjfdgmbjaaGreat.Cl
open Go Go.Eng
set_option maxRecDepth 100000
theorem k12 : KcOk2 X ⟨41, [a87], a20⟩ := kc_of hX hG hI hS (E := E []) trivial (n := 64) (by kernel_rfl)
theorem k25 : KcOk2 X ⟨59, [a108], a20⟩ := kc_of hX hG hI hS (E := E []) trivial (n := 64) (by kernel_rfl)
theorem k26 : KcOk2 X ⟨42, [a108, a21], a20⟩ := kc_of hX hG hI hS (E := E [⟨59, [a108], a20⟩]) ⟨k25, trivial⟩ (n := 64) (by kernel_rfl)
theorem k40 : KcOk2 X ⟨59, [a142], a20⟩ := kc_of hX hG hI hS (E := E []) trivial (n := 64) (by kernel_rfl)
theorem k41 : KcOk2 X ⟨42, [a142, a21], a20⟩ := kc_of hX hG hI hS (E := E [⟨59, [a142], a20⟩]) ⟨k40, trivial⟩ (n := 64) (by kernel_rfl)
theorem k48 : KcOk2 X ⟨41, [a174], a20⟩ := kc_of hX hG hI hS (E := E []) trivial (n := 64) (by kernel_rfl)
theorem k62 : KcOk2 X ⟨59, [a203], a20⟩ := kc_of hX hG hI hS (E := E []) trivial (n := 64) (by kernel_rfl)
theorem k63 : KcOk2 X ⟨42, [a203, a21], a20⟩ := kc_of hX hG hI hS (E := E [⟨59, [a203], a20⟩]) ⟨k62, trivial⟩ (n := 64) (by kernel_rfl)
end Go.Proofs.YtffabbjfdgmbjaaGreat.Cl
