/-
  CoreInner, lifted to the form of the row.
-/
import Derived.Test.YtomkobcipaligaaGreatDoorRows
import Derived.Test.YtomkobcipaligaaGreatDoorTie
import Derived.Test.YtomkobcipaligaaGreatDoorCards
import Derived.Test.YtomkobcipaligaaGreatDoorW3
import Derived.Test.YtomkobcipaligaaGreatDoorW6
import Derived.WalkKit
import Derived.ProofKit
import Derived.OpenShut
import Derived.LaidMore
import Derived.Stop.Joined
import Derived.SevenTiedAt
import Derived.MakeChecks
import Derived.Lib.LaidTab
import Derived.Deep.DeepHandedRow
import Derived.Test.YtomkobcipaligaaGreatDoorW7
set_option linter.all false
set_option linter.deprecated false
set_option maxHeartbeats 4000000
namespace Go.Proofs.YtomkobcipaligaaGreatDoor
open Go Go.az Go.ChangeShapes Go.WideShapes Go.ChangeAt Go.RowKit
theorem aA:ownKnob Tryz.prog.godebug=none:=by kernel_rfl
theorem laidOut:laidOutB Tryz.prog=true:=by kernel_rfl
theorem aDk:De CX rdL=true:=by kernel_rfl
mutual
theorem aC4{H:Type}:∀d:DataW H,mO d≤Rows.uptoBulk d
 | .slice e s=>by
   have:=IE e
   have:=IE s
   simp only [mO,Rows.uptoBulk];omega
 | .agg p=>by
   have:=IE p
   simp only [mO,Rows.uptoBulk];omega
 | .lit l=>by cases l<;>simp [mO,Rows.uptoBulk]
 | .nil =>by simp [mO,Rows.uptoBulk]
 | .ptr d=>by simp [mO,Rows.uptoBulk]
 | .iface _ d=>by simp [mO,Rows.uptoBulk]
 | .map _=>by simp [mO,Rows.uptoBulk]
 | .held _=>by simp [mO,Rows.uptoBulk]
theorem IE{H:Type}:∀d:List (DataW H),rm d≤Rows.uptoBulkAll d
 | []=>Nat.le_refl _
 |d::l=>by
  have:=aC4 d
  have:=IE l
  simp only [rm,Rows.uptoBulkAll];omega
end
theorem EE0:EE[Bt]?=some jd:=by kernel_rfl
set_option maxRecDepth 100000 in
theorem aMy(xs:List AV)(h:Qe CX [26,3] xs)(hn:J4 xs≤1048576):∃m M',FF CX 4 m xs [] (.bool true) M':=by
 match xs,h with
 | [x0,x1],⟨AO,pD,_⟩=>
   simp only [J4,List.map_cons,List.sum_cons]at hn
   have y9:GK x0≤mx:=by simp only [mx];omega
   obtain⟨p,rfl,hp⟩:=azq AO y9
   obtain⟨n,rfl,_,_⟩:=az7 pD
   have hc:=aMf p
   obtain⟨B,hB⟩:=aDG hp aFc (by simp only [mx]at y9;omega) n
   obtain⟨j,x,h1,h2,h3⟩:=alg hX hE B _ _ EE0 _ _ (hB B B (Nat.le_refl _) (Nat.le_refl _))
   cases h2
   cases h1
   exact⟨_,_,h3⟩
set_option maxRecDepth 100000 in
theorem aBW(os:Os)(args:Array Value):laidMetH Tryz.prog Rows.coreInnerUptoRow.laid ((World.doorLaid Tryz.prog 400 os).forCall (fun _ _=>0) ⟨#[],args,[]⟩).memory :=
 laidMetH_of_parts3 (fuel:=8) (laidMet_of_run' 8 (by kernel_rfl) (by kernel_rfl)) (by kernel_rfl) (by kernel_rfl)
abbrev wit:Array Value:= #[.agg #[.slice none 0 0,.int .i64 0,.slice none 0 0,.slice none 0 0],.int .i64 0]
theorem reads(os:Os){H:Type}(enc:TypeId×Value→H):∃places,DataW.whole enc Tryz.prog ((World.doorLaid Tryz.prog 400 os).forCall (fun _ _=>0) ⟨#[],wit,[]⟩).memory Tryz.f4.params.toList Rows.coreInnerSpec.vars false wit.toList 8=some ([.agg [.nil,.lit (.int .i64 0),.nil,.nil],.lit (.int .i64 0)],[],places):=
 ⟨[],by kernel_rfl⟩
set_option maxRecDepth 100000 in
theorem aCz(os:Os)(started:os.Started)(H:Type)(enc:TypeId×Value→H)(F:Stop.Interp):
 ReturnsInHanded {} Tryz.checked os 4 .any ((Rows.OpenSpec.upto Rows.coreInnerSpec).preRow enc Tryz.prog Tryz.f4 Rows.coreInnerUptoRow.domain false Rows.coreInnerUptoRow.laid) (((Rows.OpenSpec.upto Rows.coreInnerSpec).at F).post enc Tryz.prog Tryz.f4 false true false false):=by
 obtain⟨places,hx⟩:=reads os enc
 refine returnsInHanded_of_row (C:=Tryz.checked) (s:=Rows.OpenSpec.upto Rows.coreInnerSpec) aA started (by kernel_rfl) Tryz.func4
  (witness_row_at (enc:=enc) (C:=Tryz.checked) false (World.doorLaid Tryz.prog 400 os) wit rfl (by kernel_rfl) (by kernel_rfl) (by kernel_rfl)
    (OpenSpec.preRow_of_cond 8 hx (by kernel_rfl) (fun k hk=>by cases hk;kernel_rfl) (by kernel_rfl) (aBW os _))) ?_
 intro W base args ds gs before Gq hW _ hk _ hL _ _
 refine axX (X:=CX) hX laidOut (ts:=[26,3]) (tb:=4) (S:=rdL) (by kernel_rfl) (by kernel_rfl) Tryz.underlying4 aDk (by kernel_rfl) (by kernel_rfl) rfl
  (fun ds hds=>by match ds,hds with| [d0,d1],_=>rfl) W (fun g=> .top _) base args ds gs before Gq hW fun xs h hn=>aMy xs h ?_
 have h1:=hk _ rfl
 have h2:Rows.uptoBulkAll (ds++gs)≤1048576:=of_decide_eq_true h1
 have h3:=IE (ds++gs)
 have h4:rm (ds++gs)=rm ds+rm gs:=by simp only [Oi,List.map_append,List.sum_append]
 omega
end Go.Proofs.YtomkobcipaligaaGreatDoor
