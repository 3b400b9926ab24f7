/-
  Known calls.
-/
import Derived.Test.YtffabbjfdgmbjaaGreatPk5
import Derived.Test.YtffabbjfdgmbjaaGreatPk10
set_option linter.all false
set_option linter.deprecated false
namespace Go.Proofs.YtffabbjfdgmbjaaGreat.Cl
open Go Go.Eng
set_option maxRecDepth 100000
theorem k0 : KcOk2 X ⟨41, [a19], a20⟩ := kc_of hX hG hI hS (E := E []) trivial (n := 64) (by kernel_rfl)
theorem k4 : KcOk2 X ⟨59, [a68], a20⟩ := kc_of hX hG hI hS (E := E []) trivial (n := 64) (by kernel_rfl)
theorem k5 : KcOk2 X ⟨42, [a68, a21], a20⟩ := kc_of hX hG hI hS (E := E [⟨59, [a68], a20⟩]) ⟨k4, trivial⟩ (n := 64) (by kernel_rfl)
theorem k9 : KcOk2 X ⟨41, [a82], a20⟩ := kc_of hX hG hI hS (E := E []) trivial (n := 64) (by kernel_rfl)
theorem k31 : KcOk2 X ⟨59, [a119], a20⟩ := kc_of hX hG hI hS (E := E []) trivial (n := 64) (by kernel_rfl)
theorem k32 : KcOk2 X ⟨42, [a119, a21], a20⟩ := kc_of hX hG hI hS (E := E [⟨59, [a119], a20⟩]) ⟨k31, trivial⟩ (n := 64) (by kernel_rfl)
theorem k45 : KcOk2 X ⟨41, [a159], a20⟩ := kc_of hX hG hI hS (E := E []) trivial (n := 64) (by kernel_rfl)
theorem k49 : KcOk2 X ⟨59, [a174], a20⟩ := kc_of hX hG hI hS (E := E []) trivial (n := 64) (by kernel_rfl)
theorem k50 : KcOk2 X ⟨42, [a174, a21], a20⟩ := kc_of hX hG hI hS (E := E [⟨59, [a174], a20⟩]) ⟨k49, trivial⟩ (n := 64) (by kernel_rfl)
end Go.Proofs.YtffabbjfdgmbjaaGreat.Cl
