/-
  CoreNulls, lifted to the form of the row.
-/
import Derived.Test.YtomkobcipaligaaGreatDoorRows
import Derived.Test.YtomkobcipaligaaGreatDoorTie
import Derived.Test.YtomkobcipaligaaGreatDoorCards
import Derived.Test.YtomkobcipaligaaGreatDoorW3
import Derived.Test.YtomkobcipaligaaGreatDoorW6
import Derived.WalkKit
import Derived.ProofKit
import Derived.OpenShut
import Derived.LaidMore
import Derived.Stop.Joined
import Derived.SevenTiedAt
import Derived.MakeChecks
import Derived.Lib.LaidTab
import Derived.Deep.DeepHandedRow
import Derived.Test.YtomkobcipaligaaGreatDoorW7
set_option linter.all false
set_option linter.deprecated false
set_option maxHeartbeats 4000000
namespace Go.Proofs.YtomkobcipaligaaGreatDoor
open Go Go.aA Go.ChangeShapes Go.WideShapes Go.ChangeAt Go.RowKit
theorem aC:ownKnob Tryz.prog.godebug=none:=by kernel_rfl
theorem laidOut:laidOutB Tryz.prog=true:=by kernel_rfl
theorem aEu:DL CX rdL=true:=by kernel_rfl
mutual
theorem aEd{H:Type}:∀d:DataW H,ng d≤Rows.uptoBulk d
 | .slice e s=>by
   have:=Jw e
   have:=Jw s
   simp only [ng,Rows.uptoBulk];omega
 | .agg p=>by
   have:=Jw p
   simp only [ng,Rows.uptoBulk];omega
 | .lit l=>by cases l<;>simp [ng,Rows.uptoBulk]
 | .nil =>by simp [ng,Rows.uptoBulk]
 | .ptr d=>by simp [ng,Rows.uptoBulk]
 | .iface _ d=>by simp [ng,Rows.uptoBulk]
 | .map _=>by simp [ng,Rows.uptoBulk]
 | .held _=>by simp [ng,Rows.uptoBulk]
theorem Jw{H:Type}:∀d:List (DataW H),rX d≤Rows.uptoBulkAll d
 | []=>Nat.le_refl _
 |d::l=>by
  have:=aEd d
  have:=Jw l
  simp only [rX,Rows.uptoBulkAll];omega
end
theorem EE0:EE[EY]?=some We:=by kernel_rfl
set_option maxRecDepth 100000 in
theorem aNP(xs:List AV)(h:Q5 CX [26,3] xs)(hn:KU xs≤1048576):∃m M',Gm CX 3 m xs [] (.bool true) M':=by
 match xs,h with
 | [x0,x1],⟨Bl,pS,_⟩=>
   simp only [KU,List.map_cons,List.sum_cons]at hn
   have Bt:Hq x0≤mx:=by simp only [mx];omega
   obtain⟨p,rfl,hp⟩:=aAD Bl Bt
   obtain⟨n,rfl,_,_⟩:=aBl pS
   have hc:=aNw p
   obtain⟨B,hB⟩:=aEH hp aGu (by simp only [mx]at Bt;omega) n
   obtain⟨j,x,h1,h2,h3⟩:=amB hX hE B _ _ EE0 _ _ (hB B B (Nat.le_refl _) (Nat.le_refl _))
   cases h2
   cases h1
   exact⟨_,_,h3⟩
set_option maxRecDepth 100000 in
theorem aDb(os:Os)(args:Array Value):laidMetH Tryz.prog Rows.coreNullsUptoRow.laid ((World.doorLaid Tryz.prog 400 os).forCall (fun _ _=>0) ⟨#[],args,[]⟩).memory :=
 laidMetH_of_parts3 (fuel:=8) (laidMet_of_run' 8 (by kernel_rfl) (by kernel_rfl)) (by kernel_rfl) (by kernel_rfl)
abbrev wit:Array Value:= #[.agg #[.slice none 0 0,.int .i64 0,.slice none 0 0,.slice none 0 0],.int .i64 0]
theorem reads(os:Os){H:Type}(enc:TypeId×Value→H):∃places,DataW.whole enc Tryz.prog ((World.doorLaid Tryz.prog 400 os).forCall (fun _ _=>0) ⟨#[],wit,[]⟩).memory Tryz.f3.params.toList Rows.coreNullsSpec.vars false wit.toList 8=some ([.agg [.nil,.lit (.int .i64 0),.nil,.nil],.lit (.int .i64 0)],[],places):=
 ⟨[],by kernel_rfl⟩
set_option maxRecDepth 100000 in
theorem aDK(os:Os)(started:os.Started)(H:Type)(enc:TypeId×Value→H)(F:Stop.Interp):
 ReturnsInHanded {} Tryz.checked os 3 .any ((Rows.OpenSpec.upto Rows.coreNullsSpec).preRow enc Tryz.prog Tryz.f3 Rows.coreNullsUptoRow.domain false Rows.coreNullsUptoRow.laid) (((Rows.OpenSpec.upto Rows.coreNullsSpec).at F).post enc Tryz.prog Tryz.f3 false true false false):=by
 obtain⟨places,hx⟩:=reads os enc
 refine returnsInHanded_of_row (C:=Tryz.checked) (s:=Rows.OpenSpec.upto Rows.coreNullsSpec) aC started (by kernel_rfl) Tryz.func3
  (witness_row_at (enc:=enc) (C:=Tryz.checked) false (World.doorLaid Tryz.prog 400 os) wit rfl (by kernel_rfl) (by kernel_rfl) (by kernel_rfl)
    (OpenSpec.preRow_of_cond 8 hx (by kernel_rfl) (fun k hk=>by cases hk;kernel_rfl) (by kernel_rfl) (aDb os _))) ?_
 intro W base args ds gs before G2 hW _ hk _ hL _ _
 refine aza (X:=CX) hX laidOut (ts:=[26,3]) (tb:=4) (S:=rdL) (by kernel_rfl) (by kernel_rfl) Tryz.underlying4 aEu (by kernel_rfl) (by kernel_rfl) rfl
  (fun ds hds=>by match ds,hds with| [d0,d1],_=>rfl) W (fun g=> .top _) base args ds gs before G2 hW fun xs h hn=>aNP xs h ?_
 have h1:=hk _ rfl
 have h2:Rows.uptoBulkAll (ds++gs)≤1048576:=of_decide_eq_true h1
 have h3:=Jw (ds++gs)
 have h4:rX (ds++gs)=rX ds+rX gs:=by simp only [O9,List.map_append,List.sum_append]
 omega
end Go.Proofs.YtomkobcipaligaaGreatDoor
