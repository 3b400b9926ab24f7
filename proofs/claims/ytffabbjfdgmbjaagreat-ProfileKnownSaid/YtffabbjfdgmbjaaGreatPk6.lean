/-
  Known calls.
-/
import Derived.Test.YtffabbjfdgmbjaaGreatPk5
set_option linter.all false
set_option linter.deprecated false
namespace Go.Proofs.YtffabbjfdgmbjaaGreat.Cl
open Go Go.Eng
set_option maxRecDepth 100000
theorem k7 : KcOk2 X ⟨59, [a75], a20⟩ := kc_of hX hG hI hS (E := E []) trivial (n := 64) (by kernel_rfl)
theorem k8 : KcOk2 X ⟨42, [a75, a21], a20⟩ := kc_of hX hG hI hS (E := E [⟨59, [a75], a20⟩]) ⟨k7, trivial⟩ (n := 64) (by kernel_rfl)
theorem k18 : KcOk2 X ⟨41, [a97], a20⟩ := kc_of hX hG hI hS (E := E []) trivial (n := 64) (by kernel_rfl)
theorem k33 : KcOk2 X ⟨41, [a126], a20⟩ := kc_of hX hG hI hS (E := E []) trivial (n := 64) (by kernel_rfl)
theorem k34 : KcOk2 X ⟨59, [a126], a20⟩ := kc_of hX hG hI hS (E := E []) trivial (n := 64) (by kernel_rfl)
theorem k35 : KcOk2 X ⟨42, [a126, a21], a20⟩ := kc_of hX hG hI hS (E := E [⟨59, [a126], a20⟩]) ⟨k34, trivial⟩ (n := 64) (by kernel_rfl)
theorem k42 : KcOk2 X ⟨41, [a150], a20⟩ := kc_of hX hG hI hS (E := E []) trivial (n := 64) (by kernel_rfl)
theorem k54 : KcOk2 X ⟨41, [a195], a20⟩ := kc_of hX hG hI hS (E := E []) trivial (n := 64) (by kernel_rfl)
end Go.Proofs.YtffabbjfdgmbjaaGreat.Cl
