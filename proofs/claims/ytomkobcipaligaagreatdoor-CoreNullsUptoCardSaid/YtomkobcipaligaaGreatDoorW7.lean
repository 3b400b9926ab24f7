/-
  The row's closed cells, one by one.
-/
import Derived.Test.YtomkobcipaligaaGreatDoorRows
import Derived.JoinedCond
import Derived.KernelRfl
import Derived.Test.YtomkobcipaligaaGreatDoorW6
set_option linter.all false
set_option linter.deprecated false
set_option maxHeartbeats 4000000
namespace Go.Proofs.YtomkobcipaligaaGreatDoor
open Go
theorem jG{a b:Bool}(ha:a=true)(hb:b=true):(a&&b)=true:=by rw [ha,hb];rfl
abbrev lj:OpenClaim:=Rows.coreNullsUptoRow
abbrev wZ:ChangeSpec:=(Rows.OpenSpec.upto Rows.coreNullsSpec).bare
theorem aD4:(lj.wf (OpenSpec.ofChange wZ))=true:=by kernel_rfl
theorem aD3:(laidOutB Tryz.prog)=true:=by kernel_rfl
theorem aD2:(mapsRowed Tryz.prog)=true:=by kernel_rfl
theorem aD1:(Tryz.f3.params.all (Tryz.prog.readableRec ·))=true:=by kernel_rfl
theorem aD0:(namedTie Tryz.prog lj.named wZ.vars)=true:=by kernel_rfl
theorem aDZ:(lj.stops== [])=true:=by kernel_rfl
theorem aDY:(Tryz.prog.stops== [])=true:=by kernel_rfl
theorem aDX:(lj.knobs== [])=true:=by kernel_rfl
theorem aDW:(Tryz.prog.stopKnobs== [])=true:=by kernel_rfl
theorem aDV:(lj.inPlace==Tryz.prog.inPlace 3)=true:=by kernel_rfl
theorem aC8:(lj.unfollowed==Tryz.prog.unfollowed 3)=true:=by kernel_rfl
theorem aC7:(lj.recurses==Tryz.prog.recurses 3)=true:=by kernel_rfl
theorem aC6:(lj.named==Tryz.prog.varsNamed 3)=true:=by kernel_rfl
theorem aC5:(lj.maps==(Tryz.f3.params.toList++wZ.plain.varTypes Tryz.prog).any (Tryz.prog.mapsRec ·))=true:=by kernel_rfl
theorem aC4:(lj.ifaces==(Tryz.f3.params.toList++wZ.plain.varTypes Tryz.prog).any (Tryz.prog.ifacesRec ·))=true:=by kernel_rfl
theorem aC3:(lj.mapsOut==Tryz.prog.mapsAmong Tryz.f3.resultTypes.toList)=true:=by kernel_rfl
theorem aC2:(lj.loops==(Tryz.f3.params.toList++wZ.plain.varTypes Tryz.prog).any (Tryz.prog.loopsFrom ·))=true:=by kernel_rfl
theorem aC1:(lj.wideKeys==(Tryz.f3.params.toList++wZ.plain.varTypes Tryz.prog++Tryz.f3.resultTypes.toList).any (Tryz.prog.wideKeysFrom ·))=true:=by kernel_rfl
theorem aC0:(wZ.vars.all (Tryz.prog.varReadable ·))=true:=by kernel_rfl
theorem aCZ:(Tryz.f3.resultTypes.all (fun t=>Tryz.prog.readableRec t&&decide (t<Tryz.prog.types.size)))=true:=by kernel_rfl
theorem aCY:(lj.ifacesOut==Tryz.f3.resultTypes.toList.any (Tryz.prog.ifacesRec ·))=true:=by kernel_rfl
theorem aCX:(lj.loopsOut==Tryz.f3.resultTypes.toList.any (Tryz.prog.loopsFrom ·))=true:=by kernel_rfl
theorem aCW:(lj.plainKeys==Tryz.prog.plainKeys)=true:=by kernel_rfl
theorem aCV:(lj.shortTexts.isNone)=true:=by kernel_rfl
theorem aCU:(Tryz.prog.stopsHeard)=true:=by kernel_rfl
theorem aCT:(Tryz.prog.mayEnter)=true:=by kernel_rfl
theorem aCS:(lj.lifted==Tryz.prog.liftsFinal)=true:=by kernel_rfl
theorem aCR:(Tryz.prog.make==some lj.make)=true:=by kernel_rfl
theorem aCQ:(lj.kinds==(if lj.domain.isEmpty then []else Tryz.f3.params.toList.map fun t=>match Tryz.prog.underlying t with|some (.int k)=>some k|_=>none))=true:=by kernel_rfl
theorem aCP:(lj.pinned==lj.pinnedBy)=true:=by kernel_rfl
theorem aCO:(lj.veiled==(Tryz.f3.params.toList++wZ.plain.varTypes Tryz.prog++Tryz.f3.resultTypes.toList).any (Tryz.prog.veiledRec ·))=true:=by kernel_rfl
theorem aCN:(lj.veiledFits Tryz.prog Tryz.f3.params.toList (Tryz.f3.params.toList++wZ.plain.varTypes Tryz.prog++Tryz.f3.resultTypes.toList))=true:=by kernel_rfl
set_option maxRecDepth 100000 in
theorem aEb:joinedFacts Tryz.prog 3 Tryz.f3 wZ lj=true:=by
 unfold joinedFacts
 exact jG (jG (jG (jG (jG (jG (jG (jG (jG (jG (jG (jG (jG (jG (jG (jG (jG (jG (jG (jG (jG (jG (jG (jG (jG (jG (jG (jG (jG (jG (jG aD4 aD3) aD2) aD1) aD0) aDZ) aDY) aDX) aDW) aDV) aC8) aC7) aC6) aC5) aC4) aC3) aC2) aC1) aC0) aCZ) aCY) aCX) aCW) aCV) aCU) aCT) aCS) aCR) aCQ) aCP) aCO) aCN
end Go.Proofs.YtomkobcipaligaaGreatDoor
