/-
  CoreSame, lifted to the form of the row.
-/
import Derived.Test.YtomkobcipaligaaGreatDoorRows
import Derived.Test.YtomkobcipaligaaGreatDoorTie
import Derived.Test.YtomkobcipaligaaGreatDoorCards
import Derived.Test.YtomkobcipaligaaGreatDoorW3
import Derived.Test.YtomkobcipaligaaGreatDoorW6
import Derived.LaidSub
import Derived.WalkKit
import Derived.ProofKit
import Derived.OpenShut
import Derived.LaidMore
import Derived.Stop.Joined
import Derived.SevenTiedAt
import Derived.MakeChecks
import Derived.Lib.LaidTab
import Derived.Deep.DeepHandedRow
import Derived.Test.YtomkobcipaligaaGreatDoorW7
set_option linter.all false
set_option linter.deprecated false
set_option maxHeartbeats 4000000
namespace Go.Proofs.YtomkobcipaligaaGreatDoor
open Go Go.aj Go.ChangeShapes Go.WideShapes Go.ChangeAt Go.RowKit B
theorem au:ownKnob Tryz.prog.godebug=none:=by kernel_rfl
theorem laidOut:laidOutB Tryz.prog=true:=by kernel_rfl
theorem aCy:mP CX rdL=true:=by kernel_rfl
mutual
theorem aCa{H:Type}:∀d:DataW H,pS d≤Rows.uptoBulk d
 | .slice e s=>by
   have:=MA e
   have:=MA s
   simp only [pS,Rows.uptoBulk];omega
 | .agg p=>by
   have:=MA p
   simp only [pS,Rows.uptoBulk];omega
 | .lit l=>by cases l<;>simp [pS,Rows.uptoBulk]
 | .nil =>by simp [pS,Rows.uptoBulk]
 | .ptr d=>by simp [pS,Rows.uptoBulk]
 | .iface _ d=>by simp [pS,Rows.uptoBulk]
 | .map _=>by simp [pS,Rows.uptoBulk]
 | .held _=>by simp [pS,Rows.uptoBulk]
theorem MA{H:Type}:∀d:List (DataW H),vB d≤Rows.uptoBulkAll d
 | []=>Nat.le_refl _
 |d::l=>by
  have:=aCa d
  have:=MA l
  simp only [vB,Rows.uptoBulkAll];omega
end
theorem EE0:EE[XV]?=some mV:=by kernel_rfl
set_option maxRecDepth 100000 in
theorem aKl(xs:List AV)(h:Tg CX [26,26] xs)(hn:NX xs≤1048576):∃m M',yF CX 6 m xs [] (.bool true) M':=by
 match xs,h with
 | [x0,x1],⟨Hp,EI,_⟩=>
   simp only [NX,List.map_cons,List.sum_cons]at hn
   have KK:KB x0≤mx:=by simp only [mx];omega
   have Hu:KB x1≤mx:=by simp only [mx];omega
   obtain⟨p,rfl,hp,ip⟩:=agz Hp KK
   obtain⟨q,rfl,hq,iq⟩:=agz EI Hu
   obtain⟨B,hB⟩:=csE hp hq ip iq KK Hu
   obtain⟨j,x,U,h2,h3⟩:=ach hX hE B _ _ EE0 _ _ (hB B B (Nat.le_refl _) (Nat.le_refl _))
   cases h2
   cases U
   exact⟨_,_,h3⟩
set_option maxRecDepth 100000 in
theorem aAV(os:Os)(args:Array Value):laidMetH Tryz.prog Rows.coreSameUptoRow.laid ((World.doorLaid Tryz.prog 400 os).forCall (fun _ _=>0) ⟨#[],args,[]⟩).memory :=
 laidMetH_of_parts3 (fuel:=8) (laidMet_of_run' 8 (by kernel_rfl) (by kernel_rfl)) (by kernel_rfl) (by kernel_rfl)
abbrev wit:Array Value:= #[.agg #[.slice none 0 0,.int .i64 0,.slice none 0 0,.slice none 0 0],.agg #[.slice none 0 0,.int .i64 0,.slice none 0 0,.slice none 0 0]]
theorem reads(os:Os){H:Type}(enc:TypeId×Value→H):∃places,DataW.whole enc Tryz.prog ((World.doorLaid Tryz.prog 400 os).forCall (fun _ _=>0) ⟨#[],wit,[]⟩).memory Tryz.f6.params.toList Rows.coreSameSpec.vars false wit.toList 8=some ([.agg [.nil,.lit (.int .i64 0),.nil,.nil],.agg [.nil,.lit (.int .i64 0),.nil,.nil]],[],places):=
 ⟨[],by kernel_rfl⟩
theorem aCk{W:World}(h:laidMetH Tryz.prog Rows.coreSameUptoRow.laid W):Gn CX (there W) W:=by
 have U:=(laidMetH_iff.1 (laidMetH.filter (fun x=>x.1== "internal/strconv.uint64pow10") h)).1
 have e:((Rows.coreSameUptoRow.laid.filter fun x=>x.1== "internal/strconv.uint64pow10").filter fun x=>x.2.handleName?.isNone)=[("internal/strconv.uint64pow10",Lib.tabData .u64 Lib.pow10Tab)]:=by kernel_rfl
 rw [e]at U
 have hg:Tryz.prog.globalNamed "internal/strconv.uint64pow10" =some 0:=by kernel_rfl
 have h2:Lib.TabIs Tryz.prog W "internal/strconv.uint64pow10" .u64 Lib.pow10Tab:=Lib.tabIs_of_head (t:=257) (e:=236) (n:=Lib.pow10Tab.length) hg (by kernel_rfl) (by kernel_rfl) (by kernel_rfl) (by kernel_rfl) (by kernel_rfl) U
 intro g cs hc
 obtain⟨rfl,rfl⟩:0=g/\(Lib.pow10Tab.map fun z=>Value.int .u64 z).toArray =cs:=by
  have hc:some (0,(Lib.pow10Tab.map fun z=>Value.int .u64 z).toArray)=some (g,cs):=hc
  injection hc with hc;injection hc with a b;exact⟨a,b⟩
 unfold Lib.TabIs World.var? at h2
 rw [hg]at h2
 simp only [Option.bind_some]at h2
 split at h2
 ·rename_i cs t z hw
  injection h2 with h2
  subst h2
  refine⟨⟨t,z,hw⟩,?_,by decide⟩
  show 0<W.heap.size
  exact(Array.getElem?_eq_some_iff.1 hw).1
 ·cases h2
set_option maxRecDepth 100000 in
theorem aBA(os:Os)(started:os.Started)(H:Type)(enc:TypeId×Value→H)(F:Stop.Interp):
 ReturnsInHanded {} Tryz.checked os 6 .any ((Rows.OpenSpec.upto Rows.coreSameSpec).preRow enc Tryz.prog Tryz.f6 Rows.coreSameUptoRow.domain false Rows.coreSameUptoRow.laid) (((Rows.OpenSpec.upto Rows.coreSameSpec).at F).post enc Tryz.prog Tryz.f6 false true false false):=by
 obtain⟨places,hx⟩:=reads os enc
 refine returnsInHanded_of_row (C:=Tryz.checked) (s:=Rows.OpenSpec.upto Rows.coreSameSpec) au started (by kernel_rfl) Tryz.func6
  (witness_row_at (enc:=enc) (C:=Tryz.checked) false (World.doorLaid Tryz.prog 400 os) wit rfl (by kernel_rfl) (by kernel_rfl) (by kernel_rfl)
    (OpenSpec.preRow_of_cond 8 hx (by kernel_rfl) (fun k hk=>by cases hk;kernel_rfl) (by kernel_rfl) (aAV os _))) ?_
 intro W base args ds gs before J8 hW _ hk _ hL _ _
 refine axB (X:=CX) hX laidOut (ts:=[26,26]) (tb:=4) (S:=rdL) (by kernel_rfl) (by kernel_rfl) Tryz.underlying4 aCy (by kernel_rfl) (by kernel_rfl) rfl
  (fun ds hds=>by match ds,hds with| [d0,d1],_=>rfl) W (fun g=> .top _) (aCk hL) base args ds gs before J8 hW fun xs h hn=>aKl xs h ?_
 have U:=hk _ rfl
 have h2:Rows.uptoBulkAll (ds++gs)≤1048576:=of_decide_eq_true U
 have h3:=MA (ds++gs)
 have h4:vB (ds++gs)=vB ds+vB gs:=by simp only [Ro,List.map_append,List.sum_append]
 omega
end Go.Proofs.YtomkobcipaligaaGreatDoor
