/-
  ceiling/ceilinglaw39.RespKnown, run closed: the run.
-/
import Derived.Test.YtbgdiljnmifakaaKn4
set_option linter.all false
set_option linter.deprecated false
namespace Go.Proofs.Ytbgdiljnmifakaa.Cl
open Go Go.Eng
set_option maxRecDepth 100000
noncomputable def fi8 : FI := ⟨code8, ⟨251, 3618502788666131106986593281521497120414687020801267626233049500247285301247⟩, Try.f8.results.toList⟩
theorem run8 : asB (evfn X (LA X I Ss [⟨10, [], .bool true⟩] Dd 64 40 8) fi8.c fi8.rs [] [] kB) = true := by kernel_rfl
theorem law8 : ACalls X 8 [] [] (.bool true) [] := closed_run hX hG hI hS (kc := [⟨10, [], .bool true⟩]) ⟨closed_kc hG law10, trivial⟩ (fi := fi8) (by kernel_rfl) run8
end Go.Proofs.Ytbgdiljnmifakaa.Cl
