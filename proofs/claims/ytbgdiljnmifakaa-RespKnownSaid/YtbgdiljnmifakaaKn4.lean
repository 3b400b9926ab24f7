/-
  ceiling/ceilinglaw39.works, run closed: the run.
-/
import Derived.Test.YtbgdiljnmifakaaKn3
set_option linter.all false
set_option linter.deprecated false
namespace Go.Proofs.Ytbgdiljnmifakaa.Cl
open Go Go.Eng
set_option maxRecDepth 100000
noncomputable def fi10 : FI := ⟨code10, ⟨64, 18446744073709551615⟩, Try.f10.results.toList⟩
theorem run10 : asB (evfn X (LA X I Ss [] Dd 64 40 10) fi10.c fi10.rs [] [] kB) = true := by kernel_rfl
theorem law10 : ACalls X 10 [] [] (.bool true) [] := closed_run hX hG hI hS (kc := []) trivial (fi := fi10) (by kernel_rfl) run10
end Go.Proofs.Ytbgdiljnmifakaa.Cl
