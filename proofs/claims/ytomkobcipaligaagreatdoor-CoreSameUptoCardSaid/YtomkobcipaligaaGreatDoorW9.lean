/-
  What is proved: ceilinglaw16.CoreSame returns true for every input of bulk at most 1048576, and leaves its arguments as they were, whatever the memory in which the listed package-level variables stand as the card says; the card ties them to the program's text. No other condition.
-/
import Derived.Test.YtomkobcipaligaaGreatDoorRows
import Derived.Test.YtomkobcipaligaaGreatDoorTie
import Derived.Test.YtomkobcipaligaaGreatDoorCards
import Derived.Test.YtomkobcipaligaaGreatDoorW7
import Derived.Test.YtomkobcipaligaaGreatDoorW8
import Derived.WalkKit
import Derived.ProofKit
import Derived.OpenShut
import Derived.LaidMore
import Derived.Stop.Joined
import Derived.SevenTiedAt
import Derived.MakeChecks
import Derived.Lib.LaidTab
import Derived.Deep.DeepHandedRow
set_option linter.all false
set_option linter.deprecated false
set_option maxHeartbeats 4000000
namespace Go.Proofs.YtomkobcipaligaaGreatDoor
open Go Go.aj Go.ChangeShapes Go.WideShapes Go.ChangeAt Go.RowKit B
theorem asD:Rows.CoreSameUptoSaid:=
 OpenClaim.holds_of_cond 6 Tryz.f6 rfl rfl rfl rfl rfl rfl rfl ⟨rfl,rfl,rfl,rfl,rfl⟩ rfl rfl rfl rfl rfl (by kernel_rfl) Tryz.func6 aB7
  (yy (by kernel_rfl)) (by unfold Func.isWrapper;first|(rw [if_pos (by decide+kernel)];kernel_rfl)|(rw [if_neg (by decide+kernel)];exact⟨rfl,rfl⟩))
  (λos started H enc _ F=>by rw [OpenClaim.pre_eq_preRow];exact aBA os started H enc F)
theorem coreSameUpto_holds:Rows.CoreSameUptoCardSaid:=
 Claim7.holds_tied_plain_at .later [] _ _ _ _
  asD (λ_ h=>by cases h) (by kernel_rfl) (λ_ h=>by cases h) coreSameUpto_row_tie rfl ⟨rfl,rfl⟩ (by kernel_rfl) rfl
  (λf fn hf Pa=>by
    obtain rfl:f=6:=Option.some.inj ((show Tryz.prog.funcNamed "ceiling/ceilinglaw16.CoreSame" =some 6 by kernel_rfl).symm.trans hf) |>.symm
    obtain rfl:fn=Tryz.f6:=(Option.some.inj (Tryz.func6.symm.trans Pa)).symm;exact⟨by kernel_rfl,λj t ht=>by
     rw [Tryz.params6]at ht;have hm:t∈ [26,26]:=by simpa using Array.mem_of_getElem? ht
     have jP:([26,26].all λu=> !Tryz.prog.wantsStandIn u)=true:=by kernel_rfl
     exact(show Tryz.prog.wantsStandIn t=false by simpa using mz.1 jP t hm)⟩)
  (by kernel_rfl)
#print axioms coreSameUpto_holds
end Go.Proofs.YtomkobcipaligaaGreatDoor
