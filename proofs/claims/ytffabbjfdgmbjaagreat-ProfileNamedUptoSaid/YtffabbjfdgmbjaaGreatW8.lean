/-
  ProfileNamed, lifted to the form of the row.
-/
import Derived.Test.YtffabbjfdgmbjaaGreatRows
import Derived.Test.YtffabbjfdgmbjaaGreatW3
import Derived.Test.YtffabbjfdgmbjaaGreatW6
import Derived.WalkKit
import Derived.ProofKit
import Derived.OpenShut
import Derived.LaidMore
import Derived.Stop.Joined
import Derived.SevenTiedAt
import Derived.MakeChecks
import Derived.Lib.LaidTab
import Derived.Deep.DeepHandedRow
import Derived.Test.YtffabbjfdgmbjaaGreatW7
set_option linter.all false
set_option linter.deprecated false
set_option maxHeartbeats 4000000
namespace Go.Proofs.YtffabbjfdgmbjaaGreat
open Go Go.ah Go.ChangeShapes Go.WideShapes Go.ChangeAt Go.RowKit B
theorem ak:ownKnob Tryz.prog.godebug=none:=by kernel_rfl
theorem laidOut:laidOutB Tryz.prog=true:=by kernel_rfl
theorem aNg:H8 CX rdL=true:=by kernel_rfl
mutual
theorem aMT{H:Type}:∀d:DataW H,rl d≤Rows.uptoBulk d
 | .slice e s=>by
   have:=Oi e
   have:=Oi s
   simp only [rl,Rows.uptoBulk];omega
 | .agg p=>by
   have:=Oi p
   simp only [rl,Rows.uptoBulk];omega
 | .lit l=>by cases l<;>simp [rl,Rows.uptoBulk]
 | .nil =>by simp [rl,Rows.uptoBulk]
 | .ptr d=>by simp [rl,Rows.uptoBulk]
 | .iface _ d=>by simp [rl,Rows.uptoBulk]
 | .map _=>by simp [rl,Rows.uptoBulk]
 | .held _=>by simp [rl,Rows.uptoBulk]
theorem Oi{H:Type}:∀d:List (DataW H),w5 d≤Rows.uptoBulkAll d
 | []=>Nat.le_refl _
 |d::l=>by
  have:=aMT d
  have:=Oi l
  simp only [w5,Rows.uptoBulkAll];omega
end
theorem EE0:EE[aak]?=some ly:=by kernel_rfl
theorem aNr{p:PG}{t:TK}(h:t∈p.tasks):bw t.body≤(C.dx p.tasks).length :=by
 obtain⟨a,b,e⟩:=List.append_of_mem h
 rw [e,C.TA,List.length_append]
 show _≤_+(C.jm t.body++C.dx b).length
 rw [List.length_append,C.Kn];omega
set_option maxRecDepth 100000 in
theorem aYG(xs:List AV)(h:VO CX [37] xs)(hn:PW xs≤1048576):∃m M',KD CX 4 m xs [] (.bool true) M':=by
 match xs,h with
 | [x0],⟨DL,_⟩=>
   simp only [PW,List.map_cons,List.sum_cons]at hn
   have L2:LJ x0≤mx:=by simp only [mx];omega
   obtain⟨p,rfl,hp⟩:=C.aIy DL L2
   have hc:=C.aYw p
   obtain⟨B,hB⟩:=C.aNs hp C.af2 (fun t ht=>by have:=aNr ht;simp only [mx]at L2;simp only [eo];omega) X.aMZ
   obtain⟨j,x,h1,h2,h3⟩:=as2 hX hE B _ _ EE0 _ _ (hB B B (Nat.le_refl _) (Nat.le_refl _))
   cases h2
   cases h1
   exact⟨_,_,h3⟩
set_option maxRecDepth 100000 in
theorem aLq(os:Os)(args:Array Value):laidMetH Tryz.prog Rows.profileNamedUptoRow.laid ((World.doorLaid Tryz.prog 400 os).forCall (fun _ _=>0) ⟨#[],args,[]⟩).memory :=
 laidMetH_of_parts3 (fuel:=8) (laidMet_of_run' 8 (by kernel_rfl) (by kernel_rfl)) (by kernel_rfl) (by kernel_rfl)
abbrev wit:Array Value:= #[.agg #[.slice none 0 0,.int .i64 0,.slice none 0 0,.slice none 0 0]]
theorem reads(os:Os){H:Type}(enc:TypeId×Value→H):∃places,DataW.whole enc Tryz.prog ((World.doorLaid Tryz.prog 400 os).forCall (fun _ _=>0) ⟨#[],wit,[]⟩).memory Tryz.f4.params.toList Rows.profileNamedSpec.vars false wit.toList 8=some ([.agg [.nil,.lit (.int .i64 0),.nil,.nil]],[],places):=
 ⟨[],by kernel_rfl⟩
set_option maxRecDepth 100000 in
theorem aMm(os:Os)(started:os.Started)(H:Type)(enc:TypeId×Value→H)(F:Stop.Interp):
 ReturnsInHanded {} Tryz.checked os 4 .any ((Rows.OpenSpec.upto Rows.profileNamedSpec).preRow enc Tryz.prog Tryz.f4 Rows.profileNamedUptoRow.domain false Rows.profileNamedUptoRow.laid) (((Rows.OpenSpec.upto Rows.profileNamedSpec).at F).post enc Tryz.prog Tryz.f4 false true false false):=by
 obtain⟨places,hx⟩:=reads os enc
 refine returnsInHanded_of_row (C:=Tryz.checked) (s:=Rows.OpenSpec.upto Rows.profileNamedSpec) ak started (by kernel_rfl) Tryz.func4
  (witness_row_at (enc:=enc) (C:=Tryz.checked) false (World.doorLaid Tryz.prog 400 os) wit rfl (by kernel_rfl) (by kernel_rfl) (by kernel_rfl)
    (OpenSpec.preRow_of_cond 8 hx (by kernel_rfl) (fun k hk=>by cases hk;kernel_rfl) (by kernel_rfl) (aLq os _))) ?_
 intro W base args ds gs before Ll hW _ hk _ hL _ _
 refine aHb (X:=CX) hX laidOut (ts:=[37]) (tb:=4) (S:=rdL) (by kernel_rfl) (by kernel_rfl) Tryz.underlying4 aNg (by kernel_rfl) (by kernel_rfl) rfl
  (fun ds hds=>by match ds,hds with| [d0],_=>rfl) W (fun g=> .top _) base args ds gs before Ll hW fun xs h hn=>aYG xs h ?_
 have h1:=hk _ rfl
 have h2:Rows.uptoBulkAll (ds++gs)≤1048576:=of_decide_eq_true h1
 have h3:=Oi (ds++gs)
 have h4:w5 (ds++gs)=w5 ds+w5 gs:=by simp only [TM,List.map_append,List.sum_append]
 omega
end Go.Proofs.YtffabbjfdgmbjaaGreat
