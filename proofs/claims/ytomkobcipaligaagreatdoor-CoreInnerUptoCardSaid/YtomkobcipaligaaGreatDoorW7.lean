/-
  The row's closed cells, one by one.
-/
import Derived.Test.YtomkobcipaligaaGreatDoorRows
import Derived.JoinedCond
import Derived.KernelRfl
import Derived.Test.YtomkobcipaligaaGreatDoorW6
set_option linter.all false
set_option linter.deprecated false
set_option maxHeartbeats 4000000
namespace Go.Proofs.YtomkobcipaligaaGreatDoor
open Go
theorem jt{a b:Bool}(ha:a=true)(hb:b=true):(a&&b)=true:=by rw [ha,hb];rfl
abbrev kF:OpenClaim:=Rows.coreInnerUptoRow
abbrev wz:ChangeSpec:=(Rows.OpenSpec.upto Rows.coreInnerSpec).bare
theorem aCV:(kF.wf (OpenSpec.ofChange wz))=true:=by kernel_rfl
theorem aCU:(laidOutB Tryz.prog)=true:=by kernel_rfl
theorem aCT:(mapsRowed Tryz.prog)=true:=by kernel_rfl
theorem aCS:(Tryz.f4.params.all (Tryz.prog.readableRec ·))=true:=by kernel_rfl
theorem aCR:(namedTie Tryz.prog kF.named wz.vars)=true:=by kernel_rfl
theorem aCQ:(kF.stops== [])=true:=by kernel_rfl
theorem aCP:(Tryz.prog.stops== [])=true:=by kernel_rfl
theorem aCO:(kF.knobs== [])=true:=by kernel_rfl
theorem aCN:(Tryz.prog.stopKnobs== [])=true:=by kernel_rfl
theorem aCM:(kF.inPlace==Tryz.prog.inPlace 4)=true:=by kernel_rfl
theorem aBT:(kF.unfollowed==Tryz.prog.unfollowed 4)=true:=by kernel_rfl
theorem aBS:(kF.recurses==Tryz.prog.recurses 4)=true:=by kernel_rfl
theorem aBR:(kF.named==Tryz.prog.varsNamed 4)=true:=by kernel_rfl
theorem aBQ:(kF.maps==(Tryz.f4.params.toList++wz.plain.varTypes Tryz.prog).any (Tryz.prog.mapsRec ·))=true:=by kernel_rfl
theorem aBP:(kF.ifaces==(Tryz.f4.params.toList++wz.plain.varTypes Tryz.prog).any (Tryz.prog.ifacesRec ·))=true:=by kernel_rfl
theorem aBO:(kF.mapsOut==Tryz.prog.mapsAmong Tryz.f4.resultTypes.toList)=true:=by kernel_rfl
theorem aBN:(kF.loops==(Tryz.f4.params.toList++wz.plain.varTypes Tryz.prog).any (Tryz.prog.loopsFrom ·))=true:=by kernel_rfl
theorem aBM:(kF.wideKeys==(Tryz.f4.params.toList++wz.plain.varTypes Tryz.prog++Tryz.f4.resultTypes.toList).any (Tryz.prog.wideKeysFrom ·))=true:=by kernel_rfl
theorem aBL:(wz.vars.all (Tryz.prog.varReadable ·))=true:=by kernel_rfl
theorem aBK:(Tryz.f4.resultTypes.all (fun t=>Tryz.prog.readableRec t&&decide (t<Tryz.prog.types.size)))=true:=by kernel_rfl
theorem aBJ:(kF.ifacesOut==Tryz.f4.resultTypes.toList.any (Tryz.prog.ifacesRec ·))=true:=by kernel_rfl
theorem aBI:(kF.loopsOut==Tryz.f4.resultTypes.toList.any (Tryz.prog.loopsFrom ·))=true:=by kernel_rfl
theorem aBH:(kF.plainKeys==Tryz.prog.plainKeys)=true:=by kernel_rfl
theorem aBG:(kF.shortTexts.isNone)=true:=by kernel_rfl
theorem aBF:(Tryz.prog.stopsHeard)=true:=by kernel_rfl
theorem aBE:(Tryz.prog.mayEnter)=true:=by kernel_rfl
theorem aBD:(kF.lifted==Tryz.prog.liftsFinal)=true:=by kernel_rfl
theorem aBC:(Tryz.prog.make==some kF.make)=true:=by kernel_rfl
theorem aBB:(kF.kinds==(if kF.domain.isEmpty then []else Tryz.f4.params.toList.map fun t=>match Tryz.prog.underlying t with|some (.int k)=>some k|_=>none))=true:=by kernel_rfl
theorem aBA:(kF.pinned==kF.pinnedBy)=true:=by kernel_rfl
theorem aBz:(kF.veiled==(Tryz.f4.params.toList++wz.plain.varTypes Tryz.prog++Tryz.f4.resultTypes.toList).any (Tryz.prog.veiledRec ·))=true:=by kernel_rfl
theorem aBy:(kF.veiledFits Tryz.prog Tryz.f4.params.toList (Tryz.f4.params.toList++wz.plain.varTypes Tryz.prog++Tryz.f4.resultTypes.toList))=true:=by kernel_rfl
set_option maxRecDepth 100000 in
theorem aC2:joinedFacts Tryz.prog 4 Tryz.f4 wz kF=true:=by
 unfold joinedFacts
 exact jt (jt (jt (jt (jt (jt (jt (jt (jt (jt (jt (jt (jt (jt (jt (jt (jt (jt (jt (jt (jt (jt (jt (jt (jt (jt (jt (jt (jt (jt (jt aCV aCU) aCT) aCS) aCR) aCQ) aCP) aCO) aCN) aCM) aBT) aBS) aBR) aBQ) aBP) aBO) aBN) aBM) aBL) aBK) aBJ) aBI) aBH) aBG) aBF) aBE) aBD) aBC) aBB) aBA) aBz) aBy
end Go.Proofs.YtomkobcipaligaaGreatDoor
