/-
  ceiling/ceilinglaw37.ProfileKnown, run closed.
-/
import Derived.Test.YtffabbjfdgmbjaaGreatPk6
import Derived.Test.YtffabbjfdgmbjaaGreatPk7
import Derived.Test.YtffabbjfdgmbjaaGreatPk8
import Derived.Test.YtffabbjfdgmbjaaGreatPk9
import Derived.Test.YtffabbjfdgmbjaaGreatPk10
import Derived.Test.YtffabbjfdgmbjaaGreatPk11
import Derived.Test.YtffabbjfdgmbjaaGreatPk12
import Derived.Test.YtffabbjfdgmbjaaGreatPk13
set_option linter.all false
set_option linter.deprecated false
namespace Go.Proofs.YtffabbjfdgmbjaaGreat.Cl
open Go Go.Eng
set_option maxRecDepth 100000
theorem k72 : KcOk2 X ⟨6, [], a20⟩ := kc_of hX hG hI hS (E := E [⟨59, [a199], a20⟩, ⟨42, [a203, a21], a20⟩, ⟨42, [a207, a208], a20⟩, ⟨42, [a211, a21], a20⟩, ⟨42, [a223, a21], a20⟩, ⟨42, [a231, a21], a20⟩]) ⟨k61, k63, k65, k67, k69, k71, trivial⟩ (n := 64) (by kernel_rfl)
noncomputable def KS5 : List KC := [⟨41, [a19], a20⟩, ⟨42, [a19, a21], a20⟩, ⟨41, [a68], a20⟩, ⟨42, [a68, a21], a20⟩, ⟨41, [a75], a20⟩, ⟨42, [a75, a21], a20⟩, ⟨41, [a82], a20⟩, ⟨42, [a82, a21], a20⟩, ⟨41, [a87], a20⟩, ⟨42, [a87, a21], a20⟩, ⟨41, [a93], a20⟩, ⟨42, [a93, a21], a20⟩, ⟨41, [a97], a20⟩, ⟨42, [a97, a21], a20⟩, ⟨41, [a103], a20⟩, ⟨42, [a103, a21], a20⟩, ⟨41, [a108], a20⟩, ⟨42, [a108, a21], a20⟩, ⟨41, [a115], a20⟩, ⟨42, [a115, a21], a20⟩, ⟨41, [a119], a20⟩, ⟨42, [a119, a21], a20⟩, ⟨41, [a126], a20⟩, ⟨42, [a126, a21], a20⟩, ⟨41, [a134], a20⟩, ⟨42, [a134, a21], a20⟩, ⟨41, [a142], a20⟩, ⟨42, [a142, a21], a20⟩, ⟨41, [a150], a20⟩, ⟨42, [a150, a21], a20⟩, ⟨41, [a159], a20⟩, ⟨42, [a159, a21], a20⟩, ⟨41, [a174], a20⟩, ⟨42, [a174, a21], a20⟩, ⟨41, [a184], a20⟩, ⟨42, [a184, a21], a20⟩, ⟨41, [a195], a20⟩, ⟨42, [a195, a21], a20⟩, ⟨42, [a196, a197], a20⟩, ⟨42, [a198, a197], a20⟩, ⟨6, [], a20⟩]
theorem run5 : xAll X (E KS5) 64 5 = true := by kernel_rfl
end Go.Proofs.YtffabbjfdgmbjaaGreat.Cl
