/-
  What is proved: ceilinglaw16.CoreNulls returns true for every input of bulk at most 1048576, and leaves its arguments as they were, whatever the memory in which the listed package-level variables stand as the card says; the card ties them to the program's text. No other condition.
-/
import Derived.Test.YtomkobcipaligaaGreatDoorRows
import Derived.Test.YtomkobcipaligaaGreatDoorTie
import Derived.Test.YtomkobcipaligaaGreatDoorCards
import Derived.Test.YtomkobcipaligaaGreatDoorW7
import Derived.Test.YtomkobcipaligaaGreatDoorW8
import Derived.WalkKit
import Derived.ProofKit
import Derived.OpenShut
import Derived.LaidMore
import Derived.Stop.Joined
import Derived.SevenTiedAt
import Derived.MakeChecks
import Derived.Lib.LaidTab
import Derived.Deep.DeepHandedRow
set_option linter.all false
set_option linter.deprecated false
set_option maxHeartbeats 4000000
namespace Go.Proofs.YtomkobcipaligaaGreatDoor
open Go Go.aA Go.ChangeShapes Go.WideShapes Go.ChangeAt Go.RowKit
theorem arl:Rows.CoreNullsUptoSaid:=
 OpenClaim.holds_of_cond 3 Tryz.f3 rfl rfl rfl rfl rfl rfl rfl ⟨rfl,rfl,rfl,rfl,rfl⟩ rfl rfl rfl rfl rfl (by kernel_rfl) Tryz.func3 aEb
  (FF (by kernel_rfl)) (by unfold Func.isWrapper;first|(rw [if_pos (by decide+kernel)];kernel_rfl)|(rw [if_neg (by decide+kernel)];exact⟨rfl,rfl⟩))
  (λos started H enc _ F=>by rw [OpenClaim.pre_eq_preRow];exact aDK os started H enc F)
theorem coreNullsUpto_holds:Rows.CoreNullsUptoCardSaid:=
 Claim7.holds_tied_plain_at .later [] _ _ _ _
  arl (λ_ h=>by cases h) (by kernel_rfl) (λ_ h=>by cases h) coreNullsUpto_row_tie rfl ⟨rfl,rfl⟩ (by kernel_rfl) rfl
  (λf fn hf L9=>by
    obtain rfl:f=3:=Option.some.inj ((show Tryz.prog.funcNamed "ceiling/ceilinglaw16.CoreNulls" =some 3 by kernel_rfl).symm.trans hf) |>.symm
    obtain rfl:fn=Tryz.f3:=(Option.some.inj (Tryz.func3.symm.trans L9)).symm;exact⟨by kernel_rfl,λj t ht=>by
     rw [Tryz.params3]at ht;have hm:t∈ [26,3]:=by simpa using Array.mem_of_getElem? ht
     have jq:([26,3].all λu=> !Tryz.prog.wantsStandIn u)=true:=by kernel_rfl
     exact(show Tryz.prog.wantsStandIn t=false by simpa using jS.1 jq t hm)⟩)
  (by kernel_rfl)
#print axioms coreNullsUpto_holds
end Go.Proofs.YtomkobcipaligaaGreatDoor
