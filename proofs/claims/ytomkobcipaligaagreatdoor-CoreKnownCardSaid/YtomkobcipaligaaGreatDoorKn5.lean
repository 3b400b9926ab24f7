/-
  ceiling/ceilinglaw16.head, run closed: the run.
-/
import Derived.Test.YtomkobcipaligaaGreatDoorKn4
set_option linter.all false
set_option linter.deprecated false
namespace Go.Proofs.YtomkobcipaligaaGreatDoor.Cl
open Go Go.Eng
set_option maxRecDepth 100000
noncomputable def fi9 : FI := ⟨code9, ⟨63, 9223372036854775807⟩, Tryz.f9.results.toList⟩
theorem run9 : asB (evfn X (LA X I Ss [] Dd 64 64 9) fi9.c fi9.rs [] [] kB) = true := by kernel_rfl
theorem law9 : ACalls X 9 [] [] (.bool true) [] := closed_run hX hG hI hS (kc := []) trivial (fi := fi9) (by kernel_rfl) run9
end Go.Proofs.YtomkobcipaligaaGreatDoor.Cl
