/-
  The row's closed cells, one by one.
-/
import Derived.Test.YtffabbjfdgmbjaaGreatRows
import Derived.JoinedCond
import Derived.KernelRfl
import Derived.Test.YtffabbjfdgmbjaaGreatW6
set_option linter.all false
set_option linter.deprecated false
set_option maxHeartbeats 4000000
namespace Go.Proofs.YtffabbjfdgmbjaaGreat
open Go B
theorem ni{a b:Bool}(ha:a=true)(hb:b=true):(a&&b)=true:=by rw [ha,hb];rfl
abbrev oY:OpenClaim:=Rows.profileNamedUptoRow
abbrev Be:ChangeSpec:=(Rows.OpenSpec.upto Rows.profileNamedSpec).bare
theorem aMK:(oY.wf (OpenSpec.ofChange Be))=true:=by kernel_rfl
theorem aMJ:(laidOutB Tryz.prog)=true:=by kernel_rfl
theorem aMI:(mapsRowed Tryz.prog)=true:=by kernel_rfl
theorem aMH:(Tryz.f4.params.all (Tryz.prog.readableRec ·))=true:=by kernel_rfl
theorem aMG:(namedTie Tryz.prog oY.named Be.vars)=true:=by kernel_rfl
theorem aMF:(oY.stops== [])=true:=by kernel_rfl
theorem aME:(Tryz.prog.stops== [])=true:=by kernel_rfl
theorem aMD:(oY.knobs== [])=true:=by kernel_rfl
theorem aMC:(Tryz.prog.stopKnobs== [])=true:=by kernel_rfl
theorem aMB:(oY.inPlace==Tryz.prog.inPlace 4)=true:=by kernel_rfl
theorem aLm:(oY.unfollowed==Tryz.prog.unfollowed 4)=true:=by kernel_rfl
theorem aLl:(oY.recurses==Tryz.prog.recurses 4)=true:=by kernel_rfl
theorem aLk:(oY.named==Tryz.prog.varsNamed 4)=true:=by kernel_rfl
theorem aLj:(oY.maps==(Tryz.f4.params.toList++Be.plain.varTypes Tryz.prog).any (Tryz.prog.mapsRec ·))=true:=by kernel_rfl
theorem aLi:(oY.ifaces==(Tryz.f4.params.toList++Be.plain.varTypes Tryz.prog).any (Tryz.prog.ifacesRec ·))=true:=by kernel_rfl
theorem aLh:(oY.mapsOut==Tryz.prog.mapsAmong Tryz.f4.resultTypes.toList)=true:=by kernel_rfl
theorem aLg:(oY.loops==(Tryz.f4.params.toList++Be.plain.varTypes Tryz.prog).any (Tryz.prog.loopsFrom ·))=true:=by kernel_rfl
theorem aLf:(oY.wideKeys==(Tryz.f4.params.toList++Be.plain.varTypes Tryz.prog++Tryz.f4.resultTypes.toList).any (Tryz.prog.wideKeysFrom ·))=true:=by kernel_rfl
theorem aLe:(Be.vars.all (Tryz.prog.varReadable ·))=true:=by kernel_rfl
theorem aLd:(Tryz.f4.resultTypes.all (fun t=>Tryz.prog.readableRec t&&decide (t<Tryz.prog.types.size)))=true:=by kernel_rfl
theorem aLc:(oY.ifacesOut==Tryz.f4.resultTypes.toList.any (Tryz.prog.ifacesRec ·))=true:=by kernel_rfl
theorem aLb:(oY.loopsOut==Tryz.f4.resultTypes.toList.any (Tryz.prog.loopsFrom ·))=true:=by kernel_rfl
theorem aLa:(oY.plainKeys==Tryz.prog.plainKeys)=true:=by kernel_rfl
theorem aK9:(oY.shortTexts.isNone)=true:=by kernel_rfl
theorem aK8:(Tryz.prog.stopsHeard)=true:=by kernel_rfl
theorem aK7:(Tryz.prog.mayEnter)=true:=by kernel_rfl
theorem aK6:(oY.lifted==Tryz.prog.liftsFinal)=true:=by kernel_rfl
theorem aK5:(Tryz.prog.make==some oY.make)=true:=by kernel_rfl
theorem aK4:(oY.kinds==(if oY.domain.isEmpty then []else Tryz.f4.params.toList.map fun t=>match Tryz.prog.underlying t with|some (.int k)=>some k|_=>none))=true:=by kernel_rfl
theorem aK3:(oY.pinned==oY.pinnedBy)=true:=by kernel_rfl
theorem aK2:(oY.veiled==(Tryz.f4.params.toList++Be.plain.varTypes Tryz.prog++Tryz.f4.resultTypes.toList).any (Tryz.prog.veiledRec ·))=true:=by kernel_rfl
theorem aK1:(oY.veiledFits Tryz.prog Tryz.f4.params.toList (Tryz.f4.params.toList++Be.plain.varTypes Tryz.prog++Tryz.f4.resultTypes.toList))=true:=by kernel_rfl
set_option maxRecDepth 100000 in
theorem aMR:joinedFacts Tryz.prog 4 Tryz.f4 Be oY=true:=by
 unfold joinedFacts
 exact ni (ni (ni (ni (ni (ni (ni (ni (ni (ni (ni (ni (ni (ni (ni (ni (ni (ni (ni (ni (ni (ni (ni (ni (ni (ni (ni (ni (ni (ni (ni aMK aMJ) aMI) aMH) aMG) aMF) aME) aMD) aMC) aMB) aLm) aLl) aLk) aLj) aLi) aLh) aLg) aLf) aLe) aLd) aLc) aLb) aLa) aK9) aK8) aK7) aK6) aK5) aK4) aK3) aK2) aK1
end Go.Proofs.YtffabbjfdgmbjaaGreat
