/-
  ceiling/ceilinglaw16.CoreKnown, run closed: the run.
-/
import Derived.Test.YtomkobcipaligaaGreatDoorKn5
set_option linter.all false
set_option linter.deprecated false
namespace Go.Proofs.YtomkobcipaligaaGreatDoor.Cl
open Go Go.Eng
set_option maxRecDepth 100000
noncomputable def fi5 : FI := ⟨code5, ⟨101, 2535301200456458802993406410751⟩, Tryz.f5.results.toList⟩
theorem run5 : asB (evfn X (LA X I Ss [⟨9, [], .bool true⟩] Dd 64 64 5) fi5.c fi5.rs [] [] kB) = true := by kernel_rfl
theorem law5 : ACalls X 5 [] [] (.bool true) [] := closed_run hX hG hI hS (kc := [⟨9, [], .bool true⟩]) ⟨closed_kc hG law9, trivial⟩ (fi := fi5) (by kernel_rfl) run5
end Go.Proofs.YtomkobcipaligaaGreatDoor.Cl
