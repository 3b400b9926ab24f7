/-
  Known calls.
-/
import Derived.Test.YtffabbjfdgmbjaaGreatPk5
import Derived.Test.YtffabbjfdgmbjaaGreatPk6
set_option linter.all false
set_option linter.deprecated false
namespace Go.Proofs.YtffabbjfdgmbjaaGreat.Cl
open Go Go.Eng
set_option maxRecDepth 100000
theorem k1 : KcOk2 X ⟨59, [a19], a20⟩ := kc_of hX hG hI hS (E := E []) trivial (n := 64) (by kernel_rfl)
theorem k2 : KcOk2 X ⟨42, [a19, a21], a20⟩ := kc_of hX hG hI hS (E := E [⟨59, [a19], a20⟩]) ⟨k1, trivial⟩ (n := 64) (by kernel_rfl)
theorem k6 : KcOk2 X ⟨41, [a75], a20⟩ := kc_of hX hG hI hS (E := E []) trivial (n := 64) (by kernel_rfl)
theorem k19 : KcOk2 X ⟨59, [a97], a20⟩ := kc_of hX hG hI hS (E := E []) trivial (n := 64) (by kernel_rfl)
theorem k20 : KcOk2 X ⟨42, [a97, a21], a20⟩ := kc_of hX hG hI hS (E := E [⟨59, [a97], a20⟩]) ⟨k19, trivial⟩ (n := 64) (by kernel_rfl)
theorem k37 : KcOk2 X ⟨59, [a134], a20⟩ := kc_of hX hG hI hS (E := E []) trivial (n := 64) (by kernel_rfl)
theorem k38 : KcOk2 X ⟨42, [a134, a21], a20⟩ := kc_of hX hG hI hS (E := E [⟨59, [a134], a20⟩]) ⟨k37, trivial⟩ (n := 64) (by kernel_rfl)
theorem k51 : KcOk2 X ⟨41, [a184], a20⟩ := kc_of hX hG hI hS (E := E []) trivial (n := 64) (by kernel_rfl)
theorem k55 : KcOk2 X ⟨59, [a195], a20⟩ := kc_of hX hG hI hS (E := E []) trivial (n := 64) (by kernel_rfl)
theorem k56 : KcOk2 X ⟨42, [a195, a21], a20⟩ := kc_of hX hG hI hS (E := E [⟨59, [a195], a20⟩]) ⟨k55, trivial⟩ (n := 64) (by kernel_rfl)
end Go.Proofs.YtffabbjfdgmbjaaGreat.Cl
