/-
  The row's closed cells, one by one.
-/
import Derived.Test.YtomkobcipaligaaGreatDoorRows
import Derived.JoinedCond
import Derived.KernelRfl
import Derived.Test.YtomkobcipaligaaGreatDoorW6
set_option linter.all false
set_option linter.deprecated false
set_option maxHeartbeats 4000000
namespace Go.Proofs.YtomkobcipaligaaGreatDoor
open Go B
theorem lV{a b:Bool}(ha:a=true)(hb:b=true):(a&&b)=true:=by rw [ha,hb];rfl
abbrev nQ:OpenClaim:=Rows.coreSameUptoRow
abbrev zQ:ChangeSpec:=(Rows.OpenSpec.upto Rows.coreSameSpec).bare
theorem aB0:(nQ.wf (OpenSpec.ofChange zQ))=true:=by kernel_rfl
theorem aBZ:(laidOutB Tryz.prog)=true:=by kernel_rfl
theorem aBY:(mapsRowed Tryz.prog)=true:=by kernel_rfl
theorem aBX:(Tryz.f6.params.all (Tryz.prog.readableRec ·))=true:=by kernel_rfl
theorem aBW:(namedTie Tryz.prog nQ.named zQ.vars)=true:=by kernel_rfl
theorem aBV:(nQ.stops== [])=true:=by kernel_rfl
theorem aBU:(Tryz.prog.stops== [])=true:=by kernel_rfl
theorem aBT:(nQ.knobs== [])=true:=by kernel_rfl
theorem aBS:(Tryz.prog.stopKnobs== [])=true:=by kernel_rfl
theorem aBR:(nQ.inPlace==Tryz.prog.inPlace 6)=true:=by kernel_rfl
theorem aAU:(nQ.unfollowed==Tryz.prog.unfollowed 6)=true:=by kernel_rfl
theorem aAT:(nQ.recurses==Tryz.prog.recurses 6)=true:=by kernel_rfl
theorem aAS:(nQ.named==Tryz.prog.varsNamed 6)=true:=by kernel_rfl
theorem aAR:(nQ.maps==(Tryz.f6.params.toList++zQ.plain.varTypes Tryz.prog).any (Tryz.prog.mapsRec ·))=true:=by kernel_rfl
theorem aAQ:(nQ.ifaces==(Tryz.f6.params.toList++zQ.plain.varTypes Tryz.prog).any (Tryz.prog.ifacesRec ·))=true:=by kernel_rfl
theorem aAP:(nQ.mapsOut==Tryz.prog.mapsAmong Tryz.f6.resultTypes.toList)=true:=by kernel_rfl
theorem aAO:(nQ.loops==(Tryz.f6.params.toList++zQ.plain.varTypes Tryz.prog).any (Tryz.prog.loopsFrom ·))=true:=by kernel_rfl
theorem aAN:(nQ.wideKeys==(Tryz.f6.params.toList++zQ.plain.varTypes Tryz.prog++Tryz.f6.resultTypes.toList).any (Tryz.prog.wideKeysFrom ·))=true:=by kernel_rfl
theorem aAM:(zQ.vars.all (Tryz.prog.varReadable ·))=true:=by kernel_rfl
theorem aAL:(Tryz.f6.resultTypes.all (fun t=>Tryz.prog.readableRec t&&decide (t<Tryz.prog.types.size)))=true:=by kernel_rfl
theorem aAK:(nQ.ifacesOut==Tryz.f6.resultTypes.toList.any (Tryz.prog.ifacesRec ·))=true:=by kernel_rfl
theorem aAJ:(nQ.loopsOut==Tryz.f6.resultTypes.toList.any (Tryz.prog.loopsFrom ·))=true:=by kernel_rfl
theorem aAI:(nQ.plainKeys==Tryz.prog.plainKeys)=true:=by kernel_rfl
theorem aAH:(nQ.shortTexts.isNone)=true:=by kernel_rfl
theorem aAG:(Tryz.prog.stopsHeard)=true:=by kernel_rfl
theorem aAF:(Tryz.prog.mayEnter)=true:=by kernel_rfl
theorem aAE:(nQ.lifted==Tryz.prog.liftsFinal)=true:=by kernel_rfl
theorem aAD:(Tryz.prog.make==some nQ.make)=true:=by kernel_rfl
theorem aAC:(nQ.kinds==(if nQ.domain.isEmpty then []else Tryz.f6.params.toList.map fun t=>match Tryz.prog.underlying t with|some (.int k)=>some k|_=>none))=true:=by kernel_rfl
theorem aAB:(nQ.pinned==nQ.pinnedBy)=true:=by kernel_rfl
theorem aAA:(nQ.veiled==(Tryz.f6.params.toList++zQ.plain.varTypes Tryz.prog++Tryz.f6.resultTypes.toList).any (Tryz.prog.veiledRec ·))=true:=by kernel_rfl
theorem aAz:(nQ.veiledFits Tryz.prog Tryz.f6.params.toList (Tryz.f6.params.toList++zQ.plain.varTypes Tryz.prog++Tryz.f6.resultTypes.toList))=true:=by kernel_rfl
set_option maxRecDepth 100000 in
theorem aB7:joinedFacts Tryz.prog 6 Tryz.f6 zQ nQ=true:=by
 unfold joinedFacts
 exact lV (lV (lV (lV (lV (lV (lV (lV (lV (lV (lV (lV (lV (lV (lV (lV (lV (lV (lV (lV (lV (lV (lV (lV (lV (lV (lV (lV (lV (lV (lV aB0 aBZ) aBY) aBX) aBW) aBV) aBU) aBT) aBS) aBR) aAU) aAT) aAS) aAR) aAQ) aAP) aAO) aAN) aAM) aAL) aAK) aAJ) aAI) aAH) aAG) aAF) aAE) aAD) aAC) aAB) aAA) aAz
end Go.Proofs.YtomkobcipaligaaGreatDoor
