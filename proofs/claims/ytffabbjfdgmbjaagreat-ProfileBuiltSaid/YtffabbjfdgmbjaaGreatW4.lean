/-
  slices.Repeat of one row.
-/
import Derived.Test.YtffabbjfdgmbjaaGreatW3
import Derived.KernelRfl
set_option linter.all false
set_option linter.deprecated false
set_option maxHeartbeats 4000000
namespace Go.Proofs.YtffabbjfdgmbjaaGreat
open Go Go.ae Qm
set_option maxRecDepth 100000
noncomputable section
variable {G:Nat->aD->Option UO} {N n:Nat} {i0 i1 i2:Int} {l0 l1 l2 l3 l4 l5 l6 l7:aD} {r0 r1 r2 r3 r4 r5 r6 r8:aH}
def Az:bC CX EE G N NL [.agg l0,.agg l1,.agg l2,.U ai r3,.U 0 r4]=(bif gI l1 0==2 then aB (aW 0 (ln (gR l1 14)))<|bO (G NM [.agg (sT (ab bh 0 l0) [(0,.ptr 0 0 0)]),jb (gA (gR l1 14) 0),.agg (sT (ab aI 0 l2) [(6,.aa 1),(8,.mp 2)]),.U ai r3,.U 0 (au (aq r4))]) λ_ o1=>bif gB o1 1 then aB (aW 0 (ln (gR l1 12)))<|bO (G Dy [.agg (sT (ab bh 0 l0) [(0,.ptr 0 0 0)]),bN (gA (gR l1 12) 0),.U ak (gR o1 0),.agg (sT (ab aI 0 (gC o1 2)) [(6,.aa 1),(8,.mp 2)]),.U ai (gR o1 3),.U 0 (au (aq (gR o1 4)))]) λ_ o2=>af [.bool (gB o2 0),.agg (sT (ab aI 0 (gC o2 1)) [(6,.aa 1),(8,.mp 2)]),.U ai (gR o2 2),.U 0 (au (aq (gR o2 3)))]else af [.bool false,.agg (sT (ab aI 0 (gC o1 2)) [(6,.aa 1),(8,.mp 2)]),.U ai (gR o1 3),.U 0 (au (aq (gR o1 4)))]else bif gI l1 0==4 then aB (aW 0 (ln (gR l1 12)))<|bO (G Hj [.agg (sT (ab bh 0 l0) [(0,.ptr 0 0 0)]),bN (gA (gR l1 12) 0),.agg (sT (ab aI 0 l2) [(6,.aa 1),(8,.mp 2)]),.U ai r3,.U 0 (au (aq r4))]) λ_ o3=>af [.bool (gB o3 0),.agg (sT (ab aI 0 (gC o3 1)) [(6,.aa 1),(8,.mp 2)]),.U ai (gR o3 2),.U 0 (au (aq (gR o3 3)))]else bif gI l1 0==5 then aB (aW 0 (ln (gR l1 12)))<|bO (G Hj [.agg (sT (ab bh 0 l0) [(0,.ptr 0 0 0)]),bN (gA (gR l1 12) 0),.agg (sT (ab aI 0 l2) [(6,.aa 1),(8,.mp 2)]),.U ai r3,.U 0 (au (aq r4))]) λ_ o4=>af [.bool (gB o4 0),.agg (sT (ab aI 0 (gC o4 1)) [(6,.aa 1),(8,.mp 2)]),.U ai (gR o4 2),.U 0 (au (aq (gR o4 3)))]else bif gI l1 0==6 then bO (aiC G N [.agg (sT (ab aI 0 l2) [(6,.aa 1),(8,.mp 2)]),.U ai r3,.U 0 (au (aq r4)),.agg (sT (ab bh 0 l0) [(0,.ptr 0 0 0)]),bf l1]) λq8 o8=>bif cH q8 then aB (aW 0 (ln (gR (gC o8 4) 12)))<|bO (G Dr [.agg (sT (ab bh 0 (gC o8 3)) [(0,.ptr 0 0 0)]),bN (gA (gR (gC o8 4) 12) 0),.agg (sT (ab aI 0 (gC o8 0)) [(6,.aa 1),(8,.mp 2)]),.U ai (gR o8 1),.U 0 (au (aq (gR o8 2)))]) λ_ o9=>bif gB o9 0 then aB (aW 1 (ln (gR (gC o8 4) 12)))<|bO (G Dr [.agg (sT (ab bh 0 (gC o8 3)) [(0,.ptr 0 0 0)]),bN (gA (gR (gC o8 4) 12) 1),.agg (sT (ab aI 0 (gC o9 1)) [(6,.aa 1),(8,.mp 2)]),.U ai (gR o9 2),.U 0 (au (aq (gR o9 3)))]) λ_ cx=>bif gB cx 0 then aB (aW 0 (ln (gR (gC o8 4) 12)))<|bO (G Dy [.agg (sT (ab bh 0 (gC o8 3)) [(0,.ptr 0 0 0)]),bN (gA (gR (gC o8 4) 12) 0),.U ak (([[iI (gI (gC o8 4) 2)]]:aH)),.agg (sT (ab aI 0 (gC cx 1)) [(6,.aa 1),(8,.mp 2)]),.U ai (gR cx 2),.U 0 (au (aq (gR cx 3)))]) λ_ cr=>bif gB cr 0 then aB (aW 1 (ln (gR (gC o8 4) 12)))<|bO (G Dy [.agg (sT (ab bh 0 (gC o8 3)) [(0,.ptr 0 0 0)]),bN (gA (gR (gC o8 4) 12) 1),.U ak (([[iI (gI (gC o8 4) 2)]]:aH)),.agg (sT (ab aI 0 (gC cr 1)) [(6,.aa 1),(8,.mp 2)]),.U ai (gR cr 2),.U 0 (au (aq (gR cr 3)))]) λ_ dV=>af [.bool (gB dV 0),.agg (sT (ab aI 0 (gC dV 1)) [(6,.aa 1),(8,.mp 2)]),.U ai (gR dV 2),.U 0 (au (aq (gR dV 3)))]else af [.bool false,.agg (sT (ab aI 0 (gC cr 1)) [(6,.aa 1),(8,.mp 2)]),.U ai (gR cr 2),.U 0 (au (aq (gR cr 3)))]else af [.bool false,.agg (sT (ab aI 0 (gC cx 1)) [(6,.aa 1),(8,.mp 2)]),.U ai (gR cx 2),.U 0 (au (aq (gR cx 3)))]else af [.bool false,.agg (sT (ab aI 0 (gC o9 1)) [(6,.aa 1),(8,.mp 2)]),.U ai (gR o9 2),.U 0 (au (aq (gR o9 3)))]else af [.bool (gB o8 0),.agg (sT (ab aI 0 (gC o8 1)) [(6,.aa 1),(8,.mp 2)]),.U ai (gR o8 2),.U 0 (au (aq (gR o8 3)))]else bif gI l1 0==7 then bif cj 1 (gI l1 1)then bif cj (gI l1 1) 8192 then bO (G sO [.U ak (gR l0 3),iI (gI l1 1)]) λ_ gP=>af [.bool (!(gB gP 0)),.agg (sT (ab aI 0 l2) [(6,.aa 1),(8,.mp 2)]),.U ai r3,.U 0 (au (aq r4))]else af [.bool false,.agg (sT (ab aI 0 l2) [(6,.aa 1),(8,.mp 2)]),.U ai r3,.U 0 (au (aq r4))]else af [.bool false,.agg (sT (ab aI 0 l2) [(6,.aa 1),(8,.mp 2)]),.U ai r3,.U 0 (au (aq r4))]else bif gI l1 0==8 then bO (G sO [.U ak (gR l0 2),iI (gI l1 1)]) λ_ eX=>af [.bool (gB eX 0),.agg (sT (ab aI 0 l2) [(6,.aa 1),(8,.mp 2)]),.U ai r3,.U 0 (au (aq r4))]else bif gI l1 0==10 then bif gI l1 1==0 then bif gB l0 9 then af [.bool true,.agg (sT (ab aI 0 l2) [(6,.aa 1),(8,.mp 2)]),.U ai r3,.U 0 (au (aq r4))]else bif cj 1 (gI l1 1)then af [.bool (cj (gI l1 1) (gI l2 3)),.agg (sT (ab aI 0 l2) [(6,.aa 1),(8,.mp 2)]),.U ai r3,.U 0 (au (aq r4))]else af [.bool false,.agg (sT (ab aI 0 l2) [(6,.aa 1),(8,.mp 2)]),.U ai r3,.U 0 (au (aq r4))]else bif cj 1 (gI l1 1)then af [.bool (cj (gI l1 1) (gI l2 3)),.agg (sT (ab aI 0 l2) [(6,.aa 1),(8,.mp 2)]),.U ai r3,.U 0 (au (aq r4))]else af [.bool false,.agg (sT (ab aI 0 l2) [(6,.aa 1),(8,.mp 2)]),.U ai r3,.U 0 (au (aq r4))]else bO (MM G N [.int .u8 (gI l1 0),.agg (sT (ab aI 0 l2) [(6,.aa 1),(8,.mp 2)]),.U ai r3,.U 0 (au (aq r4))]) λ_ dG=>bif gB dG 0 then aB (aW 0 (ln (gR l1 12)))<|bO (G Dr [.agg (sT (ab bh 0 l0) [(0,.ptr 0 0 0)]),bN (gA (gR l1 12) 0),.agg (sT (ab aI 0 (gC dG 1)) [(6,.aa 1),(8,.mp 2)]),.U ai (gR dG 2),.U 0 (au (aq (gR dG 3)))]) λ_ kR=>af [.bool (gB kR 0),.agg (sT (ab aI 0 (gC kR 1)) [(6,.aa 1),(8,.mp 2)]),.U ai (gR kR 2),.U 0 (au (aq (gR kR 3)))]else bO (MI G N [.int .u8 (gI l1 0),.agg (sT (ab aI 0 (gC dG 1)) [(6,.aa 1),(8,.mp 2)]),.U ai (gR dG 2),.U 0 (au (aq (gR dG 3)))]) λ_ dU=>bif gB dU 0 then aB (aW 0 (ln (gR l1 14)))<|none else bif gI l1 0==14 then bif gB l1 6 then aB (aW 0 (ln (gR l1 14)))<|none else aB (aW 0 (ln (gR l1 14)))<|none else bif gI l1 0==16 then none else bif gI l1 0==17 then none else bif gI l1 0==18 then none else bif gI l1 0==20 then bif cj 0 (gI l1 4)then bif aW (gI l1 4) (ln (gR (gC dU 1) 5))then bO (G sO [.U ak (gR l0 5),iI (gI l1 4)]) λ_ mW=>bif !(gB mW 0)then bif ln (gR l0 5)==0 then af [.bool true,.agg (sT (ab aI 0 (gC dU 1)) [(6,.aa 1),(8,.mp 2)]),.U ai (gR dU 2),.U 0 (au (aq (gR dU 3)))]else bI (gI l1 4) (gR (gC dU 1) 5)<|af [.bool (ln (gR (ba (gR (gC dU 1) 5) (gI l1 4)) 2)==0),.agg (sT (ab aI 0 (gC dU 1)) [(6,.aa 1),(8,.mp 2)]),.U ai (gR dU 2),.U 0 (au (aq (gR dU 3)))]else af [.bool false,.agg (sT (ab aI 0 (gC dU 1)) [(6,.aa 1),(8,.mp 2)]),.U ai (gR dU 2),.U 0 (au (aq (gR dU 3)))]else af [.bool false,.agg (sT (ab aI 0 (gC dU 1)) [(6,.aa 1),(8,.mp 2)]),.U ai (gR dU 2),.U 0 (au (aq (gR dU 3)))]else af [.bool false,.agg (sT (ab aI 0 (gC dU 1)) [(6,.aa 1),(8,.mp 2)]),.U ai (gR dU 2),.U 0 (au (aq (gR dU 3)))]else bif gI l1 0==21 then none else bif gI l1 0==22 then bif cj 1 (ln (gR l1 16))then bif cj (ln (gR l1 16)) 32 then bO (G HY [.U ak (gR l1 16),iI 1,iI (bo ((ln (gR (gC dU 1) 4))- 1))]) λ_ mV=>af [.bool (gB mV 0),.agg (sT (ab aI 0 (gC dU 1)) [(6,.aa 1),(8,.mp 2)]),.U ai (gR dU 2),.U 0 (au (aq (gR dU 3)))]else af [.bool false,.agg (sT (ab aI 0 (gC dU 1)) [(6,.aa 1),(8,.mp 2)]),.U ai (gR dU 2),.U 0 (au (aq (gR dU 3)))]else af [.bool false,.agg (sT (ab aI 0 (gC dU 1)) [(6,.aa 1),(8,.mp 2)]),.U ai (gR dU 2),.U 0 (au (aq (gR dU 3)))]else af [.bool true,.agg (sT (ab aI 0 (gC dU 1)) [(6,.aa 1),(8,.mp 2)]),.U ai (gR dU 2),.U 0 (au (aq (gR dU 3)))]:aF):=by kernel_rfl
def akG:bC CX EE G N Du [.agg l0,.agg l1,.U ai r2,.U 0 r3]=(af [.agg (sT (ab bh 0 l0) [(0,.ptr 0 0 0),(2,.U ak bF),(9,.bool false),(10,iI (-1))]),.agg (sT (ab aI 0 l1) [(6,.aa 1),(8,.mp 2)]),.U ai r2,.U 0 (au (aq r3))]:aF):=by kernel_rfl
def ajP:Nr G N [.agg l0,.U ai r1,.U 0 r2,.agg l3,.agg l4]=(bif aW 256 (ln (gR l4 18))then br [.bool false,.agg (sT (ab aI 0 l0) [(6,.aa 1),(8,.mp 2)]),.U ai r1,.U 0 (au (aq r2)),.agg (sT (ab bh 0 l3) [(0,.ptr 0 0 0)]),bf l4]else bif aW 16 (ln (gR l4 19))then br [.bool false,.agg (sT (ab aI 0 l0) [(6,.aa 1),(8,.mp 2)]),.U ai r1,.U 0 (au (aq r2)),.agg (sT (ab bh 0 l3) [(0,.ptr 0 0 0)]),bf l4]else bO (G HY [.U ak (gR l4 16),iI (bo (gI l3 1+1)),iI (bo (ln (gR l0 4)- 1))]) λ_ o1=>bif !(gB o1 0)then br [.bool false,.agg (sT (ab aI 0 l0) [(6,.aa 1),(8,.mp 2)]),.U ai r1,.U 0 (au (aq r2)),.agg (sT (ab bh 0 l3) [(0,.ptr 0 0 0)]),bf l4]else af [.agg (sT (ab aI 0 l0) [(6,.aa 1),(8,.mp 2)]),.U ai r1,.U 0 (au (aq r2)),.agg (sT (ab bh 0 l3) [(0,.ptr 0 0 0)]),bf l4]:aF):=by kernel_rfl
def MZ:Ax G N (n+1) [.U ak r0,iI i1,iI i2,.agg l3,.U ai r4,.U 0 r5,.agg l6]=(bif aW i2 i1 then bI i2 r0<|match ae.dm (aq r5) (iI (gI (ba r0 i2) 0))with|some m3=>(Ax G N n [.U ak r0,iI i1,cm i2,.agg (sT (ab aI 0 l3) [(6,.aa 1),(8,.mp 2)]),.U ai r4,.U 0 (au (ae.jK (aq r5) (iI (gI (ba r0 i2) 0)) (iI (bo (m3.toI+1))))),.agg (sT (ab bh 0 l6) [(0,.ptr 0 0 0)])])|none=>(Ax G N n [.U ak r0,iI i1,cm i2,.agg (sT (ab aI 0 l3) [(6,.aa 1),(8,.mp 2)]),.U ai r4,.U 0 (au (ae.jK (aq r5) (iI (gI (ba r0 i2) 0)) (iI 1))),.agg (sT (ab bh 0 l6) [(0,.ptr 0 0 0)])])else af [.agg (sT (ab aI 0 l3) [(6,.aa 1),(8,.mp 2)]),.U ai r4,.U 0 (au (aq r5)),.agg (sT (ab bh 0 l6) [(0,.ptr 0 0 0)])]:aF):=by kernel_rfl
def ajl:Nh G N [.agg l0,.U ai r1,.U 0 r2,.agg l3,.agg l4]=(bO (Ax G N N [.U ak (gR l4 16),iI (ln (gR l4 16)),iI 0,.agg (sT (ab aI 0 l0) [(6,.aa 1),(8,.mp 2)]),.U ai r1,.U 0 (au (aq r2)),.agg (sT (ab bh 0 l3) [(0,.ptr 0 0 0)])]) λ_ o4=>af [.agg (sT (ab aI 0 (gC o4 0)) [(6,.aa 1),(8,.mp 2)]),.U ai (gR o4 1),.U 0 (au (aq (gR o4 2))),.agg (sT (ab bh 0 (gC o4 3)) [(0,.ptr 0 0 0)]),bf l4]:aF):=by kernel_rfl
def Wh:Dn G N (n+1) [.U bD r0,iI i1,iI i2,.agg l3,.U ai r4,.U 0 r5,.agg l6,.agg l7]=(bif aW i2 i1 then bI i2 r0<|bO (G pC [.agg (sT (ab bh 0 l6) [(0,.ptr 0 0 0)]),bf (ba r0 i2),.agg (sT (ab aI 0 l3) [(6,.aa 1),(8,.mp 2)]),.U ai r4,.U 0 (au (aq r5))]) λ_ o8=>bif !(gB o8 0)then af [.bool false,.agg (sT (ab aI 0 (gC o8 1)) [(6,.aa 1),(8,.mp 2)]),.U ai (gR o8 2),.U 0 (au (aq (gR o8 3))),.agg (sT (ab bh 0 l6) [(0,.ptr 0 0 0)]),.agg (sT (ab bh 0 l7) [(0,.ptr 0 0 0)])]else bO (G pC [.agg (sT (ab bh 0 l7) [(0,.ptr 0 0 0)]),.agg (ab dw 21 (ba r0 i2)),.agg (sT (ab aI 0 (gC o8 1)) [(6,.aa 1),(8,.mp 2)]),.U ai (gR o8 2),.U 0 (au (aq (gR o8 3)))]) λ_ o9=>bif !(gB o9 0)then af [.bool false,.agg (sT (ab aI 0 (gC o9 1)) [(6,.aa 1),(8,.mp 2)]),.U ai (gR o9 2),.U 0 (au (aq (gR o9 3))),.agg (sT (ab bh 0 l6) [(0,.ptr 0 0 0)]),.agg (sT (ab bh 0 l7) [(0,.ptr 0 0 0)])]else Dn G N n [.U bD r0,iI i1,cm i2,.agg (sT (ab aI 0 (gC o9 1)) [(6,.aa 1),(8,.mp 2)]),.U ai (gR o9 2),.U 0 (au (aq (gR o9 3))),.agg (sT (ab bh 0 l6) [(0,.ptr 0 0 0)]),.agg (sT (ab bh 0 l7) [(0,.ptr 0 0 0)])]else br [.agg (sT (ab aI 0 l3) [(6,.aa 1),(8,.mp 2)]),.U ai r4,.U 0 (au (aq r5)),.agg (sT (ab bh 0 l6) [(0,.ptr 0 0 0)]),.agg (sT (ab bh 0 l7) [(0,.ptr 0 0 0)])]:aF):=by kernel_rfl
def aiP:M6 G N [.agg l0,.U ai r1,.U 0 r2,.agg l3,.agg l4,.agg l5]=(bO (Dn G N N [.U bD (gR l3 18),iI (ln (gR l3 18)),iI 0,.agg (sT (ab aI 0 l0) [(6,.aa 1),(8,.mp 2)]),.U ai r1,.U 0 (au (aq r2)),.agg (sT (ab bh 0 l4) [(0,.ptr 0 0 0)]),.agg (sT (ab bh 0 l5) [(0,.ptr 0 0 0)])]) λvC cx=>bif cH vC then br [.bool (gB cx 0),.agg (sT (ab aI 0 (gC cx 1)) [(6,.aa 1),(8,.mp 2)]),.U ai (gR cx 2),.U 0 (au (aq (gR cx 3))),bf l3,.agg (sT (ab bh 0 (gC cx 4)) [(0,.ptr 0 0 0)]),.agg (sT (ab bh 0 (gC cx 5)) [(0,.ptr 0 0 0)])]else af [.agg (sT (ab aI 0 (gC cx 0)) [(6,.aa 1),(8,.mp 2)]),.U ai (gR cx 1),.U 0 (au (aq (gR cx 2))),bf l3,.agg (sT (ab bh 0 (gC cx 3)) [(0,.ptr 0 0 0)]),.agg (sT (ab bh 0 (gC cx 4)) [(0,.ptr 0 0 0)])]:aF):=by kernel_rfl
def ah8:Hf G N (n+1) [.U bK r0,iI i1,iI i2,.agg l3,.U ai r4,.U 0 r5,.agg l6,.agg l7,.U 0 r8]=(bif aW i2 i1 then bI i2 r0<|bO (ah1 G N [iI i2,.agg (sT (ab aI 0 l3) [(6,.aa 1),(8,.mp 2)]),.U ai r4,.U 0 (au (aq r5)),.agg (sT (ab bh 0 l6) [(0,.ptr 0 0 0)]),bf l7,WU (ba r0 i2)]) λsr dG=>bif cH sr then bO (ahJ G N N [.U ak (gR (gC dG 5) 0),iI (ln (gR (gC dG 5) 0)),iI 0,.agg (sT (ab aI 0 (gC dG 0)) [(6,.aa 1),(8,.mp 2)]),.U ai (gR dG 1),.U 0 (au (aq (gR dG 2))),.U 0 (au (aq r8))]) λT7 dU=>bif cH T7 then af [.bool (gB dU 0),.agg (sT (ab aI 0 (gC dU 1)) [(6,.aa 1),(8,.mp 2)]),.U ai (gR dU 2),.U 0 (au (aq (gR dU 3))),.agg (sT (ab bh 0 (gC dG 3)) [(0,.ptr 0 0 0)]),bf (gC dG 4),.U 0 (au (aq (gR dU 4)))]else bO (G pC [.agg (sT (ab bh 0 (gC dG 3)) [(0,.ptr 0 0 0)]),.agg (ab dw 1 (gC dG 5)),.agg (sT (ab aI 0 (gC dU 0)) [(6,.aa 1),(8,.mp 2)]),.U ai (gR dU 1),.U 0 (au (aq (gR dU 2)))]) λ_ mW=>bif !(gB mW 0)then af [.bool false,.agg (sT (ab aI 0 (gC mW 1)) [(6,.aa 1),(8,.mp 2)]),.U ai (gR mW 2),.U 0 (au (aq (gR mW 3))),.agg (sT (ab bh 0 (gC dG 3)) [(0,.ptr 0 0 0)]),bf (gC dG 4),.U 0 (au (aq (gR dU 3)))]else Hf G N n [.U bK r0,iI i1,cm i2,.agg (sT (ab aI 0 (gC mW 1)) [(6,.aa 1),(8,.mp 2)]),.U ai (gR mW 2),.U 0 (au (aq (gR mW 3))),.agg (sT (ab bh 0 (gC dG 3)) [(0,.ptr 0 0 0)]),bf (gC dG 4),.U 0 (au (aq (gR dU 3)))]else af [.bool (gB dG 0),.agg (sT (ab aI 0 (gC dG 1)) [(6,.aa 1),(8,.mp 2)]),.U ai (gR dG 2),.U 0 (au (aq (gR dG 3))),.agg (sT (ab bh 0 (gC dG 4)) [(0,.ptr 0 0 0)]),bf (gC dG 5),.U 0 (au (aq r8))]else br [.agg (sT (ab aI 0 l3) [(6,.aa 1),(8,.mp 2)]),.U ai r4,.U 0 (au (aq r5)),.agg (sT (ab bh 0 l6) [(0,.ptr 0 0 0)]),bf l7,.U 0 (au (aq r8))]:aF):=by kernel_rfl
def akI:bC CX EE G N NO [.agg l0,.agg l1,.agg l2,.U ai r3,.U 0 r4]=(bO (Nr G N [.agg (sT (ab aI 0 l2) [(6,.aa 1),(8,.mp 2)]),.U ai r3,.U 0 (au (aq r4)),.agg (sT (ab bh 0 l0) [(0,.ptr 0 0 0)]),bf l1]) λq2 o2=>bif cH q2 then bO (Nh G N [.agg (sT (ab aI 0 (gC o2 0)) [(6,.aa 1),(8,.mp 2)]),.U ai (gR o2 1),.U 0 (au (aq (gR o2 2))),.agg (sT (ab bh 0 (gC o2 3)) [(0,.ptr 0 0 0)]),bf (gC o2 4)]) λ_ o5=>bO (G Du [.agg (sT (ab bh 0 (gC o5 3)) [(0,.ptr 0 0 0)]),.agg (sT (ab aI 0 (gC o5 0)) [(6,.aa 1),(8,.mp 2)]),.U ai (gR o5 1),.U 0 (au (aq (gR o5 2)))]) λ_ o6=>bO (G Du [.agg (sT (ab bh 0 (gC o5 3)) [(0,.ptr 0 0 0)]),.agg (sT (ab aI 0 (gC o6 1)) [(6,.aa 1),(8,.mp 2)]),.U ai (gR o6 2),.U 0 (au (aq (gR o6 3)))]) λ_ o7=>bO (M6 G N [.agg (sT (ab aI 0 (gC o7 1)) [(6,.aa 1),(8,.mp 2)]),.U ai (gR o7 2),.U 0 (au (aq (gR o7 3))),bf (gC o5 4),.agg (sT (ab bh 0 (gC o6 0)) [(0,.ptr 0 0 0),(7,.bool true)]),.agg (sT (ab bh 0 (gC o7 0)) [(0,.ptr 0 0 0),(8,.bool true)])]) λzP cr=>bif cH zP then aB (aW 0 (ln (gR (gC cr 3) 17)))<|bO (G pC [.agg (sT (ab bh 0 (gC o5 3)) [(0,.ptr 0 0 0),(10,iI (-1))]),bf (gA (gR (gC cr 3) 17) 0),.agg (sT (ab aI 0 (gC cr 0)) [(6,.aa 1),(8,.mp 2)]),.U ai (gR cr 1),.U 0 (au (aq (gR cr 2)))]) λ_ dV=>bif !(gB dV 0)then af [.bool false,.agg (sT (ab aI 0 (gC dV 1)) [(6,.aa 1),(8,.mp 2)]),.U ai (gR dV 2),.U 0 (au (aq (gR dV 3)))]else bO (Hf G N N [.U bK (gR (gC cr 3) 19),iI (ln (gR (gC cr 3) 19)),iI 0,.agg (sT (ab aI 0 (gC dV 1)) [(6,.aa 1),(8,.mp 2)]),.U ai (gR dV 2),.U 0 (au (aq (gR dV 3))),.agg (sT (ab bh 0 (gC o5 3)) [(0,.ptr 0 0 0),(9,.bool true),(10,iI (-1))]),bf (gC cr 3),.U 0 (au (([]:List (AV×AV))))]) λq19 mV=>bif cH q19 then af [.bool (gB mV 0),.agg (sT (ab aI 0 (gC mV 1)) [(6,.aa 1),(8,.mp 2)]),.U ai (gR mV 2),.U 0 (au (aq (gR mV 3)))]else af [.bool true,.agg (sT (ab aI 0 (gC mV 0)) [(6,.aa 1),(8,.mp 2)]),.U ai (gR mV 1),.U 0 (au (aq (gR mV 2)))]else af [.bool (gB cr 0),.agg (sT (ab aI 0 (gC cr 1)) [(6,.aa 1),(8,.mp 2)]),.U ai (gR cr 2),.U 0 (au (aq (gR cr 3)))]else af [.bool (gB o2 0),.agg (sT (ab aI 0 (gC o2 1)) [(6,.aa 1),(8,.mp 2)]),.U ai (gR o2 2),.U 0 (au (aq (gR o2 3)))]:aF):=by kernel_rfl
def akD:bC CX EE G N HB [.U ak r0]=(bif r0.isEmpty then none else aB (l8Q r0)<|af [.U ak ((([]:aH))++r0)]:aF):=by kernel_rfl
def ajq:bC CX EE G N Au []=(af [.U ak bF]:aF):=by kernel_rfl
def ajp:bC CX EE G N As []=(af [.U ak bF]:aF):=by kernel_rfl
def anO:bC CX EE G N AQ [.U ak r0,iI i1]=(bO (FI ak (G Au) (G As) (G HB) [.U ak r0]) λ_ o1=>aB (jm (((gR o1 0).length +1)*8) 140737488355328)<|af [.U ak ((gR o1 0)++(([[iI i1]]:aH)))]:aF):=by kernel_rfl
def akn:bC CX EE G N Hz [.agg l0,iI i1,.agg l2,.U ai r3,.U 0 r4]=(bO (G Du [.agg (sT (ab bh 0 l0) [(0,.ptr 0 0 0)]),.agg (sT (ab aI 0 l2) [(6,.aa 1),(8,.mp 2)]),.U ai r3,.U 0 (au (aq r4))]) λ_ o1=>bO (G AQ [.U ak (gR (gC o1 0) 5),iI i1]) λ_ o2=>af [.agg (sT (ab ao2 0 (gC o1 0)) [(0,.ptr 0 0 0),(5,.aa 3)]),.agg (sT (ab aI 0 (gC o1 1)) [(6,.aa 1),(8,.mp 2)]),.U ai (gR o1 2),.U 0 (au (aq (gR o1 3))),.U ak (gR o2 0)]:aF):=by kernel_rfl
def akk:bC CX EE G N Nx [.agg l0,.agg l1,.agg l2,.U ai r3,.U 0 r4]=(bO (G pC [.agg (sT (ab bh 0 l1) [(0,.ptr 0 0 0)]),bf l0,.agg (sT (ab aI 0 l2) [(6,.aa 1),(8,.mp 2)]),.U ai r3,.U 0 (au (aq r4))]) λ_ o1=>af [.bool (!(gB o1 0)),.agg (sT (ab bh 0 l1) [(0,.ptr 1 0 0)]),.agg (sT (ab aI 0 (gC o1 1)) [(6,.aa 2),(8,.mp 3)]),.U ai (gR o1 2),.U 0 (au (aq (gR o1 3)))]:aF):=by kernel_rfl
def Vy:G2 G N (n+1) [.U aZ r0,iI i1,iI i2,.agg l3,.agg l4,.U ai r5,.U 0 r6]=(bif aW i2 i1 then bI i2 r0<|bO (G Nx [bf (ba r0 i2),.agg (sT (ab bh 0 l3) [(0,.ptr 1 0 0)]),.agg (sT (ab aI 0 l4) [(6,.aa 2),(8,.mp 3)]),.U ai r5,.U 0 (au (aq r6))]) λ_ o1=>bif gB o1 0 then af [iI i2,.agg (sT (ab bh 0 (gC o1 1)) [(0,.ptr 1 0 0)]),.agg (sT (ab aI 0 (gC o1 2)) [(6,.aa 2),(8,.mp 3)]),.U ai (gR o1 3),.U 0 (au (aq (gR o1 4)))]else G2 G N n [.U aZ r0,iI i1,cm i2,.agg (sT (ab bh 0 (gC o1 1)) [(0,.ptr 1 0 0)]),.agg (sT (ab aI 0 (gC o1 2)) [(6,.aa 2),(8,.mp 3)]),.U ai (gR o1 3),.U 0 (au (aq (gR o1 4)))]else br [.agg (sT (ab bh 0 l3) [(0,.ptr 1 0 0)]),.agg (sT (ab aI 0 l4) [(6,.aa 2),(8,.mp 3)]),.U ai r5,.U 0 (au (aq r6))]:aF):=by kernel_rfl
def agL:bC CX EE G N Mk [.U aZ r0,.agg l1,.agg l2,.U ai r3,.U 0 r4]=(bO (G2 G N N [.U aZ r0,iI (ln r0),iI 0,.agg (sT (ab bh 0 l1) [(0,.ptr 1 0 0)]),.agg (sT (ab aI 0 l2) [(6,.aa 2),(8,.mp 3)]),.U ai r3,.U 0 (au (aq r4))]) λq2 o2=>bif cH q2 then af [iI (gI o2 0),.agg (sT (ab bh 0 (gC o2 1)) [(0,.ptr 1 0 0)]),.agg (sT (ab aI 0 (gC o2 2)) [(6,.aa 2),(8,.mp 3)]),.U ai (gR o2 3),.U 0 (au (aq (gR o2 4)))]else af [iI (-1),.agg (sT (ab bh 0 (gC o2 0)) [(0,.ptr 1 0 0)]),.agg (sT (ab aI 0 (gC o2 1)) [(6,.aa 2),(8,.mp 3)]),.U ai (gR o2 2),.U 0 (au (aq (gR o2 3)))]:aF):=by kernel_rfl
def agu:bC CX EE G N G0 [.U aZ r0,.agg l1,.agg l2,.U ai r3,.U 0 r4]=(bO (G Mk [.U aZ r0,.agg (sT (ab bh 0 l1) [(0,.ptr 1 0 0)]),.agg (sT (ab aI 0 l2) [(6,.aa 2),(8,.mp 3)]),.U ai r3,.U 0 (au (aq r4))]) λ_ o1=>af [.bool (cj 0 (gI o1 0)),.agg (sT (ab bh 0 (gC o1 1)) [(0,.ptr 1 0 0)]),.agg (sT (ab aI 0 (gC o1 2)) [(6,.aa 2),(8,.mp 3)]),.U ai (gR o1 3),.U 0 (au (aq (gR o1 4)))]:aF):=by kernel_rfl
end
noncomputable section
variable {G:Nat->aD->Option UO} {N n:Nat} {b0:Bool} {i0 i1 i2 i3:Int} {l0 l1 l2 l3 l4:aD} {r0 r1 r2 r3 r4 r5:aH}
def ajO:Hx G N [.agg l0,.U ai r1,.U 0 r2,.agg l3,.agg l4]=(bif aW (gI l0 7) 0 then br [.bool false,.agg (sT (ab aI 0 l0) [(6,.aa 1),(8,.mp 2)]),.U ai r1,.U 0 (au (aq r2)),.agg (sT (ab bh 0 l3) [(0,.ptr 0 0 0)]),bf l4]else bif cj 64 (gI l3 11)then br [.bool false,.agg (sT (ab aI 0 l0) [(6,.aa 1),(8,.mp 2)]),.U ai r1,.U 0 (au (aq r2)),.agg (sT (ab bh 0 l3) [(0,.ptr 0 0 0)]),bf l4]else bO (G OL [bf l4]) λ_ o1=>bif !(gB o1 0)then br [.bool false,.agg (sT (ab aI 0 l0) [(6,.aa 1),(8,.mp 2)]),.U ai r1,.U 0 (au (aq r2)),.agg (sT (ab bh 0 l3) [(0,.ptr 0 0 0)]),bf l4]else bO (G Ny [.agg (sT (ab bh 0 l3) [(0,.ptr 0 0 0)]),bf l4,.agg (sT (ab aI 0 l0) [(6,.aa 1),(8,.mp 2)]),.U ai r1,.U 0 (au (aq r2))]) λ_ o2=>bif !(gB o2 0)then br [.bool false,.agg (sT (ab aI 0 (gC o2 1)) [(6,.aa 1),(8,.mp 2)]),.U ai (gR o2 2),.U 0 (au (aq (gR o2 3))),.agg (sT (ab bh 0 l3) [(0,.ptr 0 0 0)]),bf l4]else bO (G NL [.agg (sT (ab bh 0 l3) [(0,.ptr 0 0 0)]),bf l4,.agg (sT (ab aI 0 (gC o2 1)) [(6,.aa 1),(8,.mp 2)]),.U ai (gR o2 2),.U 0 (au (aq (gR o2 3)))]) λ_ o3=>bif !(gB o3 0)then br [.bool false,.agg (sT (ab aI 0 (gC o3 1)) [(6,.aa 1),(8,.mp 2)]),.U ai (gR o3 2),.U 0 (au (aq (gR o3 3))),.agg (sT (ab bh 0 l3) [(0,.ptr 0 0 0)]),bf l4]else af [.agg (sT (ab aI 0 (gC o3 1)) [(6,.aa 1),(8,.mp 2)]),.U ai (gR o3 2),.U 0 (au (aq (gR o3 3))),.agg (sT (ab bh 0 l3) [(0,.ptr 0 0 0)]),bf l4]:aF):=by kernel_rfl
def M7:yg G N [.agg l0,.U ai r1,.U 0 r2,.agg l3,.agg l4]=(bif gI l4 0==9 then bO (G NO [.agg (sT (ab bh 0 l3) [(0,.ptr 0 0 0)]),bf l4,.agg (sT (ab aI 0 l0) [(6,.aa 1),(8,.mp 2)]),.U ai r1,.U 0 (au (aq r2))]) λ_ o5=>br [.bool (gB o5 0),.agg (sT (ab aI 0 (gC o5 1)) [(6,.aa 1),(8,.mp 2)]),.U ai (gR o5 2),.U 0 (au (aq (gR o5 3))),.agg (sT (ab bh 0 l3) [(0,.ptr 0 0 0)]),bf l4]else bif gI l4 0==19 then none else bif gI l4 0==18 then none else bif gI l4 0==20 then bO (G Hz [.agg (sT (ab bh 0 l3) [(0,.ptr 0 0 0)]),iI (gI l4 4),.agg (sT (ab aI 0 l0) [(6,.aa 1),(8,.mp 2)]),.U ai r1,.U 0 (au (aq r2))]) λ_ o6=>aB (aW 0 (ln (gR l4 17)))<|bO (G pC [.agg (sT (ab bh 0 (gC o6 0)) [(0,.ptr 0 0 0),(5,.U ak (gR o6 4))]),bf (gA (gR l4 17) 0),.agg (sT (ab aI 0 (gC o6 1)) [(6,.aa 1),(8,.mp 2)]),.U ai (gR o6 2),.U 0 (au (aq (gR o6 3)))]) λ_ o7=>br [.bool (gB o7 0),.agg (sT (ab aI 0 (gC o7 1)) [(6,.aa 1),(8,.mp 2)]),.U ai (gR o7 2),.U 0 (au (aq (gR o7 3))),.agg (sT (ab bh 0 l3) [(0,.ptr 0 0 0)]),bf l4]else bif gI l4 0==17 then bO (G Hz [.agg (sT (ab bh 0 l3) [(0,.ptr 0 0 0)]),iI (gI l4 4),.agg (sT (ab aI 0 l0) [(6,.aa 1),(8,.mp 2)]),.U ai r1,.U 0 (au (aq r2))]) λ_ o8=>aB (aW 0 (ln (gR l4 17)))<|bO (G pC [.agg (sT (ab bh 0 (gC o8 0)) [(0,.ptr 0 0 0),(5,.U ak (gR o8 4))]),bf (gA (gR l4 17) 0),.agg (sT (ab aI 0 (gC o8 1)) [(6,.aa 1),(8,.mp 2)]),.U ai (gR o8 2),.U 0 (au (aq (gR o8 3)))]) λ_ o9=>bif gB o9 0 then aB (aW 1 (ln (gR l4 17)))<|bO (G pC [.agg (sT (ab bh 0 l3) [(0,.ptr 0 0 0),(10,iI (-1))]),bf (gA (gR l4 17) 1),.agg (sT (ab aI 0 (gC o9 1)) [(6,.aa 1),(8,.mp 2)]),.U ai (gR o9 2),.U 0 (au (aq (gR o9 3)))]) λ_ cx=>bif gB cx 0 then aB (aW 2 (ln (gR l4 17)))<|bO (G pC [.agg (sT (ab bh 0 l3) [(0,.ptr 0 0 0),(10,iI (-1))]),bf (gA (gR l4 17) 2),.agg (sT (ab aI 0 (gC cx 1)) [(6,.aa 1),(8,.mp 2)]),.U ai (gR cx 2),.U 0 (au (aq (gR cx 3)))]) λ_ cr=>br [.bool (gB cr 0),.agg (sT (ab aI 0 (gC cr 1)) [(6,.aa 1),(8,.mp 2)]),.U ai (gR cr 2),.U 0 (au (aq (gR cr 3))),.agg (sT (ab bh 0 l3) [(0,.ptr 0 0 0)]),bf l4]else br [.bool false,.agg (sT (ab aI 0 (gC cx 1)) [(6,.aa 1),(8,.mp 2)]),.U ai (gR cx 2),.U 0 (au (aq (gR cx 3))),.agg (sT (ab bh 0 l3) [(0,.ptr 0 0 0)]),bf l4]else br [.bool false,.agg (sT (ab aI 0 (gC o9 1)) [(6,.aa 1),(8,.mp 2)]),.U ai (gR o9 2),.U 0 (au (aq (gR o9 3))),.agg (sT (ab bh 0 l3) [(0,.ptr 0 0 0)]),bf l4]else bif gI l4 0==16 then af [.agg (sT (ab aI 0 l0) [(6,.aa 1),(8,.mp 2)]),.U ai r1,.U 0 (au (aq r2)),.agg (sT (ab bh 0 l3) [(0,.ptr 0 0 0),(10,iI (-1))]),bf l4]else bif gI l4 0==7 then bO (G AQ [.U ak (gR l3 2),iI (gI l4 1)]) λ_ dV=>bO (G AQ [.U ak (gR l3 3),iI (gI l4 1)]) λ_ gP=>af [.agg (sT (ab aI 0 l0) [(6,.aa 1),(8,.mp 2)]),.U ai r1,.U 0 (au (aq r2)),.agg (sT (ab bh 0 l3) [(0,.ptr 0 0 0),(2,.U ak (gR dV 0)),(3,.U ak (gR gP 0))]),bf l4]else bif gI l4 0==6 then bO (G AQ [.U ak (gR l3 6),iI (gI l4 2)]) λ_ eX=>af [.agg (sT (ab aI 0 l0) [(6,.aa 1),(8,.mp 2)]),.U ai r1,.U 0 (au (aq r2)),.agg (sT (ab bh 0 l3) [(0,.ptr 0 0 0),(6,.U ak (gR eX 0))]),bf l4]else af [.agg (sT (ab aI 0 l0) [(6,.aa 1),(8,.mp 2)]),.U ai r1,.U 0 (au (aq r2)),.agg (sT (ab bh 0 l3) [(0,.ptr 0 0 0)]),bf l4]:aF):=by kernel_rfl
def ak5:bC CX EE G N pC [.agg l0,.agg l1,.agg l2,.U ai r3,.U 0 r4]=(bO (Hx G N [.agg (sT (ab aI 0 l2) [(6,.aa 1),(7,iI (bo (gI l2 7- 1))),(8,.mp 2)]),.U ai r3,.U 0 (au (aq r4)),.agg (sT (ab bh 0 l0) [(0,.ptr 0 0 0)]),bf l1]) λq4 o4=>bif cH q4 then bO (yg G N [.agg (sT (ab aI 0 (gC o4 0)) [(6,.aa 1),(8,.mp 2)]),.U ai (gR o4 1),.U 0 (au (aq (gR o4 2))),.agg (sT (ab bh 0 (gC o4 3)) [(0,.ptr 0 0 0),(11,iI (bo (gI (gC o4 3) 11+1)))]),bf (gC o4 4)]) λsr dG=>bif cH sr then bO (G G0 [.U aZ (gR (gC dG 4) 17),.agg (sT (ab bh 0 (gC dG 3)) [(0,.ptr 1 0 0)]),.agg (sT (ab aI 0 (gC dG 0)) [(6,.aa 2),(8,.mp 3)]),.U ai (gR dG 1),.U 0 (au (aq (gR dG 2)))]) λ_ kR=>af [.bool (!(gB kR 0)),.agg (sT (ab aI 0 (gC kR 2)) [(6,.aa 1),(8,.mp 2)]),.U ai (gR kR 3),.U 0 (au (aq (gR kR 4)))]else af [.bool (gB dG 0),.agg (sT (ab aI 0 (gC dG 1)) [(6,.aa 1),(8,.mp 2)]),.U ai (gR dG 2),.U 0 (au (aq (gR dG 3)))]else af [.bool (gB o4 0),.agg (sT (ab aI 0 (gC o4 1)) [(6,.aa 1),(8,.mp 2)]),.U ai (gR o4 2),.U 0 (au (aq (gR o4 3)))]:aF):=by kernel_rfl
def ang:OR G N [.agg l0]=(bO (G Oi [.U bE (gR l0 0)]) λ_ o1=>bif !(gB o1 0)then br [.bool false,dz l0]else bif aW (gI l0 1) 4 then br [.bool false,dz l0]else bif aW 64 (gI l0 1)then br [.bool false,dz l0]else bif aW (ln (gR l0 2)) 1 then br [.bool false,dz l0]else bif aW 32 (ln (gR l0 2))then br [.bool false,dz l0]else bif aW 32 (ln (gR l0 3))then br [.bool false,dz l0]else aB (aW 0 (ln (gR l0 2)))<|bif aW 0 (ln (gR (gA (gR l0 2) 0) 1))then br [.bool false,dz l0]else af [dz l0]:aF):=by kernel_rfl
def Xo:H2 G N (n+1) [.U cT r0,iI i1,iI i2]=(bif aW i2 i1 then bI i2 r0<|bif aW (gI (ba r0 i2) 0) 0 then cQ else bif aW 31 (gI (ba r0 i2) 0)then cQ else bif aW 8 (ln (gR (ba r0 i2) 1))then cQ else bif aW (gI (ba r0 i2) 23) 0 then cQ else bif aW 2147483647 (gI (ba r0 i2) 23)then cQ else H2 G N n [.U cT r0,iI i1,cm i2]else br []:aF):=by kernel_rfl
def amR:OA G N [.agg l0]=(bO (H2 G N N [.U cT (gR l0 2),iI (ln (gR l0 2)),iI 0]) λq3 o3=>bif cH q3 then br [.bool (gB o3 0),dz l0]else af [dz l0]:aF):=by kernel_rfl
def ak1:NW G N [.agg l0]=(bif aW (gI l0 0) 0 then br [.bool false,sP l0]else bif aW 31 (gI l0 0)then br [.bool false,sP l0]else bif aW 8 (ln (gR l0 2))then br [.bool false,sP l0]else af [sP l0]:aF):=by kernel_rfl
def akY:NT G N (n+1) [.U ax r0,iI i1,iI i2,.agg l3,.agg l4]=(bif aW i2 i1 then bI i2 r0<|bO (G HM [.agg [.U bE (gR l3 0),iI (ln (gR l4 2))],bN (ba r0 i2)]) λ_ o7=>bif !(gB o7 1)then af [.bool false,dz l3,sP l4]else bO (G HK [fA (gC o7 0)]) λ_ o8=>bif !(gB o8 0)then af [.bool false,dz l3,sP l4]else none else br [dz l3,sP l4]:aF):=by kernel_rfl
def W8:HQ G N (n+1) [.U dN r0,iI i1,iI i2,.agg l3]=(bif aW i2 i1 then bI i2 r0<|bO (NW G N [sP (ba r0 i2)]) λq6 o6=>bif cH q6 then bO (NT G N N [.U ax (gR (gC o6 0) 2),iI (ln (gR (gC o6 0) 2)),iI 0,dz l3,sP (gC o6 0)]) λq9 o9=>bif cH q9 then af [.bool (gB o9 0),dz (gC o9 1)]else HQ G N n [.U dN r0,iI i1,cm i2,dz (gC o9 0)]else af [.bool (gB o6 0),dz l3]else br [dz l3]:aF):=by kernel_rfl
def aml:On G N [.agg l0]=(bO (HQ G N N [.U dN (gR l0 3),iI (ln (gR l0 3)),iI 0,dz l0]) λvC cx=>bif cH vC then br [.bool (gB cx 0),dz (gC cx 1)]else af [dz (gC cx 0)]:aF):=by kernel_rfl
def NZ:DI G N (n+1) [.U cT r0,iI i1,iI i2,.agg l3,.U 0 r4,.U ai r5]=(bif aW i2 i1 then bI i2 r0<|bO (G pC [.agg [.ptr 0 0 0,iI i2,.U ak bF,.U ak bF,.U ak bF,.U ak bF,.U ak bF,.bool false,.bool false,.bool false,iI (-1),iI 0],.agg (ab dw 2 (ba r0 i2)),.agg (sT (ab aI 0 l3) [(6,.aa 1),(8,.mp 2)]),.U ai r5,.U 0 (au (aq r4))]) λ_ dV=>bif !(gB dV 0)then af [.bool false,.agg (sT (ab aI 0 (gC dV 1)) [(6,.aa 2),(8,.mp 1)]),.U 0 (au (aq (gR dV 3))),.U ai (gR dV 2)]else DI G N n [.U cT r0,iI i1,cm i2,.agg (sT (ab aI 0 (gC dV 1)) [(6,.aa 2),(8,.mp 1)]),.U 0 (au (aq (gR dV 3))),.U ai (gR dV 2)]else br [.agg (sT (ab aI 0 l3) [(6,.aa 2),(8,.mp 1)]),.U 0 (au (aq r4)),.U ai r5]:aF):=by kernel_rfl
def W7:AJ G N (n+1) [iI i0,iI i1,.agg l2,.U 0 r3,.U ai r4]=(bif aW i1 i0 then bif aW 0 i1 then match ae.dm (aq r3) (iI i1)with|some Uj=>(bif Uj.toI != 1 then af [.bool false,.agg (sT (ab aI 0 l2) [(6,.aa 2),(8,.mp 1)]),.U 0 (au (aq r3)),.U ai r4]else AJ G N n [iI i0,cm i1,.agg (sT (ab aI 0 l2) [(6,.aa 2),(8,.mp 1)]),.U 0 (au (aq r3)),.U ai r4])|none=>(af [.bool false,.agg (sT (ab aI 0 l2) [(6,.aa 2),(8,.mp 1)]),.U 0 (au (aq r3)),.U ai r4])else AJ G N n [iI i0,cm i1,.agg (sT (ab aI 0 l2) [(6,.aa 2),(8,.mp 1)]),.U 0 (au (aq r3)),.U ai r4]else br [.agg (sT (ab aI 0 l2) [(6,.aa 2),(8,.mp 1)]),.U 0 (au (aq r3)),.U ai r4]:aF):=by kernel_rfl
def aod:bC CX EE G N um [.agg l0]=(bO (OR G N [dz l0]) λq2 o2=>bif cH q2 then bO (OA G N [dz (gC o2 0)]) λq4 o4=>bif cH q4 then bO (G OM [dz (gC o4 0)]) λ_ o5=>bif !(gB o5 0)then cQ else bO (On G N [dz (gC o4 0)]) λzP cr=>bif cH zP then bO (DI G N N [.U cT (gR (gC cr 0) 2),iI (ln (gR (gC cr 0) 2)),iI 0,.agg [.U bE (gR (gC o4 0) 0),iI (-1),.U bE (gR (gC o4 0) 0),iI (gI (gC o4 0) 1),.U cT (gR (gC o4 0) 2),.U dN (gR (gC o4 0) 3),.aa 2,iI 8192,.mp 1],.U 0 (au (([]:List (AV×AV)))),.U ai (gR o5 1)]) λzO gP=>bif cH zO then af [.bool (gB gP 0)]else bO (AJ G N N [iI (ln (gR (gC cr 0) 2)),iI 0,.agg (sT (ab aI 0 (gC gP 0)) [(6,.aa 2),(8,.mp 1)]),.U 0 (au (aq (gR gP 1))),.U ai (gR gP 2)]) λsr dG=>bif cH sr then af [.bool (gB dG 0)]else dr else af [.bool (gB cr 0)]else af [.bool (gB o4 0)]else af [.bool (gB o2 0)]:aF):=by kernel_rfl
def amV:bC CX EE G N Ov [.agg l0]=(af [bf l0]:aF):=by kernel_rfl
def Wl:Hl G N (n+1) [.U bD r0,iI i1,iI i2,.agg l3,.agg l4]=(bif aW i2 i1 then bI i2 r0<|bO (G qT [bf (ba r0 i2)]) λ_ o2=>bO (G qT [.agg (ab dw 21 (ba r0 i2))]) λ_ o3=>Hl G N n [.U bD r0,iI i1,cm i2,.agg [.ptr 1 0 0],.agg [iI (bo (bo (gI l4 0+gI o2 0)+gI o3 0))]]else af [.agg [.ptr 1 0 0],.agg [iI (gI l4 0)]]:aF):=by kernel_rfl
def ajo:Nk G N [.agg l0,.agg l1,.agg l2]=(bO (Hl G N N [.U bD (gR l1 18),iI (ln (gR l1 18)),iI 0,.agg [.ptr 1 0 0],.agg [iI (gI l2 0)]]) λ_ o4=>af [.agg [.ptr 2 0 0],bf l1,.agg [iI (gI (gC o4 1) 0)]]:aF):=by kernel_rfl
def Wk:Hk G N (n+1) [.U aZ r0,iI i1,iI i2,.agg l3,.agg l4]=(bif aW i2 i1 then bI i2 r0<|bO (G qT [bf (ba r0 i2)]) λ_ o6=>Hk G N n [.U aZ r0,iI i1,cm i2,.agg [.ptr 1 0 0],.agg [iI (bo (gI l4 0+gI o6 0))]]else af [.agg [.ptr 1 0 0],.agg [iI (gI l4 0)]]:aF):=by kernel_rfl
def ajn:Nj G N [.agg l0,.agg l1,.agg l2]=(bO (Hk G N N [.U aZ (gR l1 17),iI (ln (gR l1 17)),iI 0,.agg [.ptr 1 0 0],.agg [iI (gI l2 0)]]) λ_ o7=>af [.agg [.ptr 2 0 0],bf l1,.agg [iI (gI (gC o7 1) 0)]]:aF):=by kernel_rfl
def Wj:Dq G N (n+1) [.U bK r0,iI i1,iI i2,.agg l3,.agg l4]=(bif aW i2 i1 then bI i2 r0<|bO (G qT [.agg (ab dw 1 (ba r0 i2))]) λ_ o9=>Dq G N n [.U bK r0,iI i1,cm i2,.agg [.ptr 1 0 0],.agg [iI (bo (gI l4 0+gI o9 0))]]else af [.agg [.ptr 1 0 0],.agg [iI (gI l4 0)]]:aF):=by kernel_rfl
def Wi:Dp G N (n+1) [.U bP r0,iI i1,iI i2,.agg l3,.agg l4]=(bif aW i2 i1 then bI i2 r0<|bO (G qT [.agg (ab dw 12 (ba r0 i2))]) λ_ cr=>bO (G qT [.agg (ab dw 33 (ba r0 i2))]) λ_ dV=>Dp G N n [.U bP r0,iI i1,cm i2,.agg [.ptr 1 0 0],.agg [iI (bo (bo (gI l4 0+gI cr 0)+gI dV 0))]]else af [.agg [.ptr 1 0 0],.agg [iI (gI l4 0)]]:aF):=by kernel_rfl
def ank:bC CX EE G N qT [.agg l0]=(bO (G Ov [bf l0]) λ_ o1=>bO (Nk G N [.agg [.ptr 2 0 0],bf (gC o1 0),.agg [iI 1]]) λ_ o5=>bO (Nj G N [.agg [.ptr 2 0 0],bf (gC o5 1),.agg [iI (gI (gC o5 2) 0)]]) λ_ o8=>bO (Dq G N N [.U bK (gR (gC o8 1) 19),iI (ln (gR (gC o8 1) 19)),iI 0,.agg [.ptr 1 0 0],.agg [iI (gI (gC o8 2) 0)]]) λ_ cx=>bO (Dp G N N [.U bP (gR (gC o8 1) 20),iI (ln (gR (gC o8 1) 20)),iI 0,.agg [.ptr 1 0 0],.agg [iI (gI (gC cx 1) 0)]]) λ_ gP=>af [iI (gI (gC gP 1) 0)]:aF):=by kernel_rfl
def ahG:bC CX EE G N vW [.agg l0,.agg l1,.agg l2,.U bz r3]=(aB (jm ((r3.length+1)*280) 140737488355328)<|bO (G qT [bf l0]) λ_ o1=>af [.agg [.aa 3],.agg [iI (bo (gI l2 0+gI o1 0))],.U bz (r3++(([sT (ab pB 0 l0) [(21,iI (gI l2 0))]]:aH)))]:aF):=by kernel_rfl
def VX:De G N (n+1) [.U bD r0,iI i1,iI i2,.agg l3,.agg l4,.U bz r5]=(bif aW i2 i1 then bI i2 r0<|bO (G vW [bf (ba r0 i2),.agg [.aa 2],.agg [iI (gI l4 0)],.U bz r5]) λ_ o1=>bO (G vW [.agg (ab dw 21 (ba r0 i2)),.agg [.aa 2],.agg [iI (gI (gC o1 1) 0)],.U bz (gR o1 2)]) λ_ o2=>De G N n [.U bD r0,iI i1,cm i2,.agg [.aa 2],.agg [iI (gI (gC o2 1) 0)],.U bz (gR o2 2)]else af [.agg [.aa 2],.agg [iI (gI l4 0)],.U bz r5]:aF):=by kernel_rfl
def ahs:MB G N [.agg l0,.agg l1,.agg l2,.U bz r3]=(bO (De G N N [.U bD (gR l0 18),iI (ln (gR l0 18)),iI 0,.agg [.aa 2],.agg [iI (gI l2 0)],.U bz r3]) λ_ o3=>af [fq l0,.agg [.aa 3],.agg [iI (gI (gC o3 1) 0)],.U bz (gR o3 2)]:aF):=by kernel_rfl
def VW:Dd G N (n+1) [.U aZ r0,iI i1,iI i2,.agg l3,.agg l4,.U bz r5]=(bif aW i2 i1 then bI i2 r0<|bO (G vW [bf (ba r0 i2),.agg [.aa 2],.agg [iI (gI l4 0)],.U bz r5]) λ_ o5=>Dd G N n [.U aZ r0,iI i1,cm i2,.agg [.aa 2],.agg [iI (gI (gC o5 1) 0)],.U bz (gR o5 2)]else af [.agg [.aa 2],.agg [iI (gI l4 0)],.U bz r5]:aF):=by kernel_rfl
def ahr:MA G N [.agg l0,.agg l1,.agg l2,.U bz r3]=(bO (Dd G N N [.U aZ (gR l0 17),iI (ln (gR l0 17)),iI 0,.agg [.aa 2],.agg [iI (gI l2 0)],.U bz r3]) λ_ o6=>af [fq l0,.agg [.aa 3],.agg [iI (gI (gC o6 1) 0)],.U bz (gR o6 2)]:aF):=by kernel_rfl
def VV:Aq G N (n+1) [.U bK r0,iI i1,iI i2,.agg l3,.agg l4,.U bz r5]=(bif aW i2 i1 then bI i2 r0<|bO (G vW [.agg (ab dw 1 (ba r0 i2)),.agg [.aa 2],.agg [iI (gI l4 0)],.U bz r5]) λ_ o8=>Aq G N n [.U bK r0,iI i1,cm i2,.agg [.aa 2],.agg [iI (gI (gC o8 1) 0)],.U bz (gR o8 2)]else af [.agg [.aa 2],.agg [iI (gI l4 0)],.U bz r5]:aF):=by kernel_rfl
def VU:Ap G N (n+1) [.U bP r0,iI i1,iI i2,.agg l3,.agg l4,.U bz r5]=(bif aW i2 i1 then bI i2 r0<|bO (G vW [.agg (ab dw 12 (ba r0 i2)),.agg [.aa 2],.agg [iI (gI l4 0)],.U bz r5]) λ_ cx=>bO (G vW [.agg (ab dw 33 (ba r0 i2)),.agg [.aa 2],.agg [iI (gI (gC cx 1) 0)],.U bz (gR cx 2)]) λ_ cr=>Ap G N n [.U bP r0,iI i1,cm i2,.agg [.aa 2],.agg [iI (gI (gC cr 1) 0)],.U bz (gR cr 2)]else af [.agg [.aa 2],.agg [iI (gI l4 0)],.U bz r5]:aF):=by kernel_rfl
def aib:bC CX EE G N ug [.agg l0]=(bO (MB G N [fq l0,.agg [.aa 3],.agg [iI (bo (gI l0 21+1))],.U bz bF]) λ_ o4=>bO (MA G N [fq (gC o4 0),.agg [.aa 3],.agg [iI (gI (gC o4 2) 0)],.U bz (gR o4 3)]) λ_ o7=>bO (Aq G N N [.U bK (gR (gC o7 0) 19),iI (ln (gR (gC o7 0) 19)),iI 0,.agg [.aa 2],.agg [iI (gI (gC o7 2) 0)],.U bz (gR o7 3)]) λ_ o9=>bO (Ap G N N [.U bP (gR (gC o7 0) 20),iI (ln (gR (gC o7 0) 20)),iI 0,.agg [.aa 2],.agg [iI (gI (gC o9 1) 0)],.U bz (gR o9 2)]) λ_ dV=>af [.U bz (gR dV 2)]:aF):=by kernel_rfl
def ajf:Na G N [.agg l0,.U bz r1]=(bif gB l0 23 then af [.agg (sT (ab kE 0 l0) [(22,.aa 1),(23,.bool true)]),.U bz r1]else af [.agg (sT (ab kE 0 l0) [(22,.aa 1),(23,.bool (aW 0 (ln (gR l0 16))))]),.U bz r1]:aF):=by kernel_rfl
def aje:M9 G N [.bool b0,.U bz r1,.agg l2,.U bz r3]=(bif gI l2 0==3 then bif b0 then af [.bool (aW 0 (ln r1)),.agg (sT (ab kE 0 l2) [(22,.aa 1)]),.U bz r3]else af [.bool false,.agg (sT (ab kE 0 l2) [(22,.aa 1)]),.U bz r3]else af [.bool false,.agg (sT (ab kE 0 l2) [(22,.aa 1)]),.U bz r3]:aF):=by kernel_rfl
def ajd:M8 G N [.agg l0,.U bz r1]=(bif gB l0 24 then af [.agg (sT (ab kE 0 l0) [(22,.aa 1),(24,.bool true)]),.U bz r1]else af [.agg (sT (ab kE 0 l0) [(22,.aa 1),(24,.bool (aW 0 (ln (gR l0 19))))]),.U bz r1]:aF):=by kernel_rfl
def We:ye G N (n+1) [.U bz r0,.U bD r1,iI i2,iI i3,.agg l4,.U bz r5]=(bif aW i3 i2 then bI i3 r1<|bif gB l4 24 then bI (bo (2*i3)) r0<|aB (jm ((r5.length+1)*280) 140737488355328)<|ye G N n [.U bz r0,.U bD r1,iI i2,cm i3,.agg (sT (ab kE 0 l4) [(22,.aa 1),(24,.bool true)]),.U bz (r5++(([ab pB 0 (ba r0 (bo (2*i3)))]:aH)))]else bI (bo (2*i3)) r0<|aB (jm ((r5.length+1)*280) 140737488355328)<|ye G N n [.U bz r0,.U bD r1,iI i2,cm i3,.agg (sT (ab kE 0 l4) [(22,.aa 1),(24,.bool (gI (ba r1 i3) 21 != 1))]),.U bz (r5++(([ab pB 0 (ba r0 (bo (2*i3)))]:aH)))]else af [.agg (sT (ab kE 0 l4) [(22,.aa 1)]),.U bz r5]:aF):=by kernel_rfl
end
noncomputable section
variable {G:Nat->aD->Option UO} {N n:Nat} {b0 b1:Bool} {i0 i1 i2 i3:Int} {l0 l1 l2 l3 l4 l6 l7:aD} {r0 r1 r2 r3 r4 r5 r6 r7 r8 r9 g9 g8 g7 gZ:aH}
def akd:Ds G N (n+1) [.bool b0,.agg l1,.agg l2,.U ax r3,.U ax r4,.U aL r5,.U aL r6,.U ak r7,.U aZ r8,.U bD r9,.U bK g9,.U bP g8,.U bz g7,.U bz gZ]=(bO (G ug [fq l2]) λ_ o1=>bif gI l2 0==9 then bO (Na G N [.agg (sT (ab kE 0 l2) [(22,.aa 1)]),.U bz gZ]) λ_ o2=>bO (M8 G N [.agg (sT (ab kE 0 (gC o2 0)) [(22,.aa 1)]),.U bz (gR o2 1)]) λ_ o3=>bO (ye G N N [.U bz (gR o1 0),.U bD (gR (gC o3 0) 18),iI (ln (gR (gC o3 0) 18)),iI 0,.agg (sT (ab kE 0 (gC o3 0)) [(22,.aa 1)]),.U bz (gR o3 1)]) λ_ o4=>bI (bo (2*(ln (gR (gC o3 0) 18)))) (gR o1 0)<|Ds G N n [.bool b0,.agg (sT (ab PS 0 l1) [(12,.aa 2),(13,.aa 3),(14,.aa 4),(15,.aa 5),(16,.aa 6),(17,.aa 7),(18,.aa 8),(19,.aa 9),(20,.aa 10),(22,.aa 11)]),.agg (sT (ab kE 0 (ba (gR o1 0) (bo (2*(ln (gR (gC o3 0) 18)))))) [(22,.aa 12),(23,.bool (gB (gC o4 0) 23)),(24,.bool (gB (gC o4 0) 24))]),.U ax r3,.U ax r4,.U aL r5,.U aL r6,.U ak r7,.U aZ r8,.U bD r9,.U bK g9,.U bP g8,.U bz g7,.U bz (gR o4 1)]else bO (M9 G N [.bool b0,.U bz (gR o1 0),.agg (sT (ab kE 0 l2) [(22,.aa 1)]),.U bz gZ]) λ_ o5=>bif gB o5 0 then aB (cj 0 (bo (ln (gR o1 0)- 1))&&cj (bo (ln (gR o1 0)- 1)) (ln (gR o1 0))&&cj (ln (gR o1 0)) (ln (gR o1 0)))<|aB (jm (((gR o5 2).length +((gR o1 0).take ((bo (ln (gR o1 0)- 1)).toNat)).length)*280) 140737488355328)<|bI (bo (ln (gR o1 0)- 1)) (gR o1 0)<|Ds G N n [.bool b0,.agg (sT (ab PS 0 l1) [(12,.aa 2),(13,.aa 3),(14,.aa 4),(15,.aa 5),(16,.aa 6),(17,.aa 7),(18,.aa 8),(19,.aa 9),(20,.aa 10),(22,.aa 11)]),.agg (sT (ab kE 0 (ba (gR o1 0) (bo (ln (gR o1 0)- 1)))) [(22,.aa 12),(23,.bool (gB (gC o5 1) 23)),(24,.bool (gB (gC o5 1) 24))]),.U ax r3,.U ax r4,.U aL r5,.U aL r6,.U ak r7,.U aZ r8,.U bD r9,.U bK g9,.U bP g8,.U bz g7,.U bz ((gR o5 2)++((gR o1 0).take ((bo (ln (gR o1 0)- 1)).toNat)))]else af [.agg (sT (ab kE 0 (gC o5 1)) [(22,.aa 2)]),.agg (sT (ab kE 0 (gC o5 1)) [(22,.aa 2)]),.U bz (gR o5 2)]:aF):=by kernel_rfl
def alv:bC CX EE G N HL [.agg l0,.bool b1]=(bO (Ds G N N [.bool b1,.agg [.int .u8 0,iI 0,iI 0,iI 0,iI 0,iI 0,.bool false,.bool false,.bool false,.bool false,.bool false,.int .u8 0,.aa 2,.aa 3,.aa 4,.aa 5,.aa 6,.aa 7,.aa 8,.aa 9,.aa 10,iI 0,.aa 11,.bool false,.bool false],.agg (sT (ab kE 0 l0) [(22,.aa 12),(23,.bool false),(24,.bool false)]),.U ax bF,.U ax bF,.U aL bF,.U aL bF,.U ak bF,.U aZ bF,.U bD bF,.U bK bF,.U bP bF,.U bz bF,.U bz bF]) λ_ o6=>af [.agg (sT (ab kE 0 (gC o6 0)) [(22,.aa 0)]),.U bz (gR o6 2)]:aF):=by kernel_rfl
def ahu:bC CX EE G N V1 [.agg l0]=(af [.bool (gI l0 0 != 1)]:aF):=by kernel_rfl
def Vo:C5 G N (n+1) [.U ax r0,iI i1,iI i2]=(bif aW i2 i1 then bI i2 r0<|bO (G V1 [bN (ba r0 i2)]) λ_ o1=>bif gB o1 0 then af [iI i2]else C5 G N n [.U ax r0,iI i1,cm i2]else br []:aF):=by kernel_rfl
def Vq:bC CX EE G N L8 [.U ax r0]=(bO (C5 G N N [.U ax r0,iI (ln r0),iI 0]) λq2 o2=>bif cH q2 then af [iI (gI o2 0)]else af [iI (-1)]:aF):=by kernel_rfl
def agc:bC CX EE G N L7 [.U ax r0]=(bO (G L8 [.U ax r0]) λ_ o1=>af [.bool (cj 0 (gI o1 0))]:aF):=by kernel_rfl
def ahi:My G N [.int .u8 i0]=(bif i0==5 then dr else bif i0==15 then dr else bif i0==16 then dr else bif i0==17 then dr else bif i0==18 then dr else bif i0==19 then dr else bif i0==21 then dr else af [.bool (i0==22)]:aF):=by kernel_rfl
def ahq:Mz G N [.bool b0,.agg l1]=(bO (My G N [.int .u8 (gI l1 0)]) λ_ o1=>bif gB o1 0 then br [.bool false,fq l1]else bif gI l1 0==20 then bif b0 then br [.bool false,fq l1]else af [fq l1]else bif gI l1 0==6 then bO (G L7 [.U ax (gR l1 12)]) λ_ o2=>bif gB o2 0 then br [.bool false,fq l1]else af [fq l1]else bif gI l1 0==9 then bif aW 0 (ln (gR l1 16))then br [.bool false,fq l1]else af [fq l1]else af [fq l1]:aF):=by kernel_rfl
def ahW:bC CX EE G N Dh [.agg l0,.bool b1]=(bO (Mz G N [.bool b1,fq l0]) λq3 o3=>bif cH q3 then bO (G ug [fq (gC o3 0)]) λ_ o4=>bO (G yj [.U bz (gR o4 0),.bool b1]) λ_ o5=>af [.bool (gB o5 0)]else af [.bool (gB o3 0)]:aF):=by kernel_rfl
def ak2:bC CX EE G N WX [.agg l0,.agg l1]=(bO (G Dh [fq l0,.bool (gB l1 0)]) λ_ o1=>af [.bool (!(gB o1 0)),.agg [.bool (gB l1 0)]]:aF):=by kernel_rfl
def Vw:C9 G N (n+1) [.U bz r0,iI i1,iI i2,.agg l3]=(bif aW i2 i1 then bI i2 r0<|bO (G WX [fq (ba r0 i2),.agg [.bool (gB l3 0)]]) λ_ o1=>bif gB o1 0 then af [iI i2,.agg [.bool (gB (gC o1 1) 0)]]else C9 G N n [.U bz r0,iI i1,cm i2,.agg [.bool (gB (gC o1 1) 0)]]else br [.agg [.bool (gB l3 0)]]:aF):=by kernel_rfl
def VF:bC CX EE G N Mh [.U bz r0,.agg l1]=(bO (C9 G N N [.U bz r0,iI (ln r0),iI 0,.agg [.bool (gB l1 0)]]) λq2 o2=>bif cH q2 then af [iI (gI o2 0),.agg [.bool (gB (gC o2 1) 0)]]else af [iI (-1),.agg [.bool (gB (gC o2 0) 0)]]:aF):=by kernel_rfl
def agq:bC CX EE G N Mb [.U bz r0,.agg l1]=(bO (G Mh [.U bz r0,.agg [.bool (gB l1 0)]]) λ_ o1=>af [.bool (cj 0 (gI o1 0)),.agg [.bool (gB (gC o1 1) 0)]]:aF):=by kernel_rfl
def al1:bC CX EE G N yj [.U bz r0,.bool b1]=(bO (G Mb [.U bz r0,.agg [.bool b1]]) λ_ o1=>af [.bool (!(gB o1 0))]:aF):=by kernel_rfl
def ajs:bC CX EE G N Av [.agg l0,.agg l1,.U az r2,.U ay r3]=(bif gI l0 0==2 then bif gI l0 3==gI l1 54 then af [.bool (gI l0 4==0),.agg (sT (ab bm 0 l1) [(61,.aa 1),(62,.aa 2)]),.U az r2,.U ay r3]else af [.bool false,.agg (sT (ab bm 0 l1) [(61,.aa 1),(62,.aa 2)]),.U az r2,.U ay r3]else af [.bool false,.agg (sT (ab bm 0 l1) [(61,.aa 1),(62,.aa 2)]),.U az r2,.U ay r3]:aF):=by kernel_rfl
def aia:MQ G N [.agg l0,.U az r1,.U ay r2,.agg l3,.agg l4]=(bif aW 0 (ln (gR l3 1))then br [.bool false,.agg (sT (ab bm 0 l0) [(61,.aa 1),(62,.aa 2)]),.U az r1,.U ay r2,rP l3,fq l4]else bif aW (gI l3 0) 1 then br [.bool false,.agg (sT (ab bm 0 l0) [(61,.aa 1),(62,.aa 2)]),.U az r1,.U ay r2,rP l3,fq l4]else bif gB l0 29 then br [.bool false,.agg (sT (ab bm 0 l0) [(61,.aa 1),(62,.aa 2)]),.U az r1,.U ay r2,rP l3,fq l4]else bif gB l0 30 then br [.bool false,.agg (sT (ab bm 0 l0) [(61,.aa 1),(62,.aa 2)]),.U az r1,.U ay r2,rP l3,fq l4]else bif gI l4 0 != 5 then br [.bool false,.agg (sT (ab bm 0 l0) [(61,.aa 1),(62,.aa 2)]),.U az r1,.U ay r2,rP l3,fq l4]else aB (aW 0 (ln (gR l4 12)))<|bif gI (gA (gR l4 12) 0) 0 != 1 then br [.bool false,.agg (sT (ab bm 0 l0) [(61,.aa 1),(62,.aa 2)]),.U az r1,.U ay r2,rP l3,fq l4]else aB (aW 0 (ln (gR l4 12)))<|bif gI (gA (gR l4 12) 0) 2 != 1 then br [.bool false,.agg (sT (ab bm 0 l0) [(61,.aa 1),(62,.aa 2)]),.U az r1,.U ay r2,rP l3,fq l4]else bO (G yj [.U bz (gR l0 28),.bool true]) λ_ o2=>bif !(gB o2 0)then br [.bool false,.agg (sT (ab bm 0 l0) [(61,.aa 1),(62,.aa 2)]),.U az r1,.U ay r2,rP l3,fq l4]else af [.agg (sT (ab bm 0 l0) [(61,.aa 1),(62,.aa 2)]),.U az r1,.U ay r2,rP l3,fq l4]:aF):=by kernel_rfl
def ahT:ML G N [.agg l0,.U az r1,.U ay r2,.U bz r3]=(aB (aW 0 (ln r3))<|aB (gH 0 (r3.length))<|bif gI (gA r3 0) 0==3 then aB (aW 0 (ln r3))<|aB (gH 0 (r3.length))<|bO (G ug [fq (gA r3 0)]) λ_ o5=>af [.agg (sT (ab bm 0 l0) [(61,.aa 1),(62,.aa 2)]),.U az r1,.U ay r2,.U bz (gR o5 0)]else af [.agg (sT (ab bm 0 l0) [(61,.aa 1),(62,.aa 2)]),.U az r1,.U ay r2,.U bz r3]:aF):=by kernel_rfl
def ahS:MK G N [.agg l0,.U az r1,.U ay r2,.U bz r3]=(bif ln r3==0 then br [.bool false,.agg (sT (ab bm 0 l0) [(61,.aa 1),(62,.aa 2)]),.U az r1,.U ay r2,.U bz r3]else aB (aW 0 (ln r3))<|bif gI (gA r3 0) 0 != 15 then br [.bool false,.agg (sT (ab bm 0 l0) [(61,.aa 1),(62,.aa 2)]),.U az r1,.U ay r2,.U bz r3]else aB (aW 0 (ln r3))<|bif !(gB (gA r3 0) 8)then br [.bool false,.agg (sT (ab bm 0 l0) [(61,.aa 1),(62,.aa 2)]),.U az r1,.U ay r2,.U bz r3]else aB (cj 1 (ln r3)&&cj (ln r3) (ln r3)&&cj (ln r3) (ln r3))<|bO (G yj [.U bz (r3.drop 1),.bool false]) λ_ o7=>bif !(gB o7 0)then br [.bool false,.agg (sT (ab bm 0 l0) [(61,.aa 1),(62,.aa 2)]),.U az r1,.U ay r2,.U bz r3]else af [.agg (sT (ab bm 0 l0) [(61,.aa 1),(62,.aa 2)]),.U az r1,.U ay r2,.U bz r3]:aF):=by kernel_rfl
def aju:bC CX EE G N Aw [.agg l0,.U az r1,.U ay r2]=(bI (gI l0 4) (gR l0 2)<|bO (G HL [.agg (sT (ab pB 2 (ba (gR l0 2) (gI l0 4))) [(21,iI (gI l0 5))]),.bool true]) λ_ o1=>bO (MQ G N [.agg (sT (ab bm 0 l0) [(6,.int .u8 (gI (gC o1 0) 0)),(7,iI (gI (gC o1 0) 1)),(8,iI (gI (gC o1 0) 2)),(9,iI (gI (gC o1 0) 3)),(10,iI (gI (gC o1 0) 4)),(11,iI (gI (gC o1 0) 5)),(12,.bool (gB (gC o1 0) 6)),(13,.bool (gB (gC o1 0) 7)),(14,.bool (gB (gC o1 0) 8)),(15,.bool (gB (gC o1 0) 9)),(16,.bool (gB (gC o1 0) 10)),(17,.int .u8 (gI (gC o1 0) 11)),(18,.U ax (gR (gC o1 0) 12)),(19,.U ax (gR (gC o1 0) 13)),(20,.U aL (gR (gC o1 0) 14)),(21,.U aL (gR (gC o1 0) 15)),(22,.U ak (gR (gC o1 0) 16)),(23,.U aZ (gR (gC o1 0) 17)),(24,.U bD (gR (gC o1 0) 18)),(25,.U bK (gR (gC o1 0) 19)),(26,.U bP (gR (gC o1 0) 20)),(27,iI (gI (gC o1 0) 21)),(28,.U bz (gR o1 1)),(29,.bool (gB (gC o1 0) 23)),(30,.bool (gB (gC o1 0) 24)),(61,.aa 1),(62,.aa 2)]),.U az r1,.U ay r2,rP (ba (gR l0 2) (gI l0 4)),fq (gC o1 0)]) λq3 o3=>bif cH q3 then bO (G ug [fq (gC o3 4)]) λ_ o4=>bO (ML G N [.agg (sT (ab bm 0 (gC o3 0)) [(61,.aa 1),(62,.aa 2)]),.U az (gR o3 1),.U ay (gR o3 2),.U bz (gR o4 0)]) λ_ o6=>bO (MK G N [.agg (sT (ab bm 0 (gC o6 0)) [(61,.aa 1),(62,.aa 2)]),.U az (gR o6 1),.U ay (gR o6 2),.U bz (gR o6 3)]) λq8 o8=>bif cH q8 then aB (aW 0 (ln (gR o8 3)))<|aB (cj 1 (ln (gR o8 3))&&cj (ln (gR o8 3)) (ln (gR o8 3))&&cj (ln (gR o8 3)) (ln (gR o8 3)))<|aB (aW 0 (ln (gR o8 3)))<|aB (aW 0 (ln (gR (gA (gR o8 3) 0) 12)))<|bO (G Av [bN (gA (gR (gA (gR o8 3) 0) 12) 0),.agg (sT (ab bm 0 (gC o8 0)) [(31,.int .u8 (gI (gA (gR o8 3) 0) 0)),(32,iI (gI (gA (gR o8 3) 0) 1)),(33,iI (gI (gA (gR o8 3) 0) 2)),(34,iI (gI (gA (gR o8 3) 0) 3)),(35,iI (gI (gA (gR o8 3) 0) 4)),(36,iI (gI (gA (gR o8 3) 0) 5)),(37,.bool (gB (gA (gR o8 3) 0) 6)),(38,.bool (gB (gA (gR o8 3) 0) 7)),(39,.bool (gB (gA (gR o8 3) 0) 8)),(40,.bool (gB (gA (gR o8 3) 0) 9)),(41,.bool (gB (gA (gR o8 3) 0) 10)),(42,.int .u8 (gI (gA (gR o8 3) 0) 11)),(43,.U ax (gR (gA (gR o8 3) 0) 12)),(44,.U ax (gR (gA (gR o8 3) 0) 13)),(45,.U aL (gR (gA (gR o8 3) 0) 14)),(46,.U aL (gR (gA (gR o8 3) 0) 15)),(47,.U ak (gR (gA (gR o8 3) 0) 16)),(48,.U aZ (gR (gA (gR o8 3) 0) 17)),(49,.U bD (gR (gA (gR o8 3) 0) 18)),(50,.U bK (gR (gA (gR o8 3) 0) 19)),(51,.U bP (gR (gA (gR o8 3) 0) 20)),(52,iI (gI (gA (gR o8 3) 0) 21)),(53,.U bz ((gR o8 3).drop 1)),(54,iI (gI (gA (gR (gA (gR o8 3) 0) 12) 0) 3)),(61,.aa 1),(62,.aa 2)]),.U az (gR o8 1),.U ay (gR o8 2)]) λ_ o9=>bif gB o9 0 then bI (gI (gC o9 1) 54) (gR (gC o9 1) 0)<|af [.bool (gI (ba (gR (gC o9 1) 0) (gI (gC o9 1) 54)) 0==1),.agg (sT (ab bm 0 (gC o9 1)) [(61,.aa 1),(62,.aa 2)]),.U az (gR o9 2),.U ay (gR o9 3)]else af [.bool false,.agg (sT (ab bm 0 (gC o9 1)) [(61,.aa 1),(62,.aa 2)]),.U az (gR o9 2),.U ay (gR o9 3)]else af [.bool (gB o8 0),.agg (sT (ab bm 0 (gC o8 1)) [(61,.aa 1),(62,.aa 2)]),.U az (gR o8 2),.U ay (gR o8 3)]else af [.bool (gB o3 0),.agg (sT (ab bm 0 (gC o3 1)) [(61,.aa 1),(62,.aa 2)]),.U az (gR o3 2),.U ay (gR o3 3)]:aF):=by kernel_rfl
def ajt:bC CX EE G N Hn [.agg l0,.agg l1,.U az r2,.U ay r3]=(bif gI l0 0==2 then aB (aW 0 (ln (gR l0 14)))<|bif gI (gA (gR l0 14) 0) 0==1 then aB (aW 0 (ln (gR l0 14)))<|af [.bool (gI (gA (gR l0 14) 0) 1==gI l1 54),.agg (sT (ab bm 0 l1) [(61,.aa 1),(62,.aa 2)]),.U az r2,.U ay r3]else af [.bool false,.agg (sT (ab bm 0 l1) [(61,.aa 1),(62,.aa 2)]),.U az r2,.U ay r3]else af [.bool false,.agg (sT (ab bm 0 l1) [(61,.aa 1),(62,.aa 2)]),.U az r2,.U ay r3]:aF):=by kernel_rfl
def ahc:Mw G N [.agg l0,.U az r1,.U ay r2,.agg l3]=(bif gI l3 0==9 then aB (aW 0 (ln (gR l3 8)))<|af [.agg (sT (ab bm 0 l0) [(61,.aa 1),(62,.aa 2)]),.U az r1,.U ay r2,bN (gA (gR l3 8) 0)]else af [.agg (sT (ab bm 0 l0) [(61,.aa 1),(62,.aa 2)]),.U az r1,.U ay r2,bN l3]:aF):=by kernel_rfl
def ahb:Mv G N [.agg l0,.U az r1,.U ay r2,.agg l3]=(bif gI l3 0 != 5 then br [.agg (sT (ab bm 0 l0) [(61,.aa 1),(62,.aa 2)]),.U az r1,.U ay r2,bN l3]else bif gI l3 1 != 1 then br [.agg (sT (ab bm 0 l0) [(61,.aa 1),(62,.aa 2)]),.U az r1,.U ay r2,bN l3]else af [.agg (sT (ab bm 0 l0) [(61,.aa 1),(62,.aa 2)]),.U az r1,.U ay r2,bN l3]:aF):=by kernel_rfl
def ag7:Dc G N [.agg l0,.U az r1,.U ay r2,.agg l3,.agg l4]=(bO (G Av [bN l3,.agg (sT (ab bm 0 l0) [(61,.aa 1),(62,.aa 2)]),.U az r1,.U ay r2]) λ_ o5=>bif gB o5 0 then bif gI l4 0==1 then af [.bool (cj 0 (gI l4 2)),.agg (sT (ab bm 0 (gC o5 1)) [(61,.aa 1),(62,.aa 2)]),.U az (gR o5 2),.U ay (gR o5 3),bN l3,bN l4]else af [.bool false,.agg (sT (ab bm 0 (gC o5 1)) [(61,.aa 1),(62,.aa 2)]),.U az (gR o5 2),.U ay (gR o5 3),bN l3,bN l4]else af [.bool false,.agg (sT (ab bm 0 (gC o5 1)) [(61,.aa 1),(62,.aa 2)]),.U az (gR o5 2),.U ay (gR o5 3),bN l3,bN l4]:aF):=by kernel_rfl
def V2:rN G N (n+1) [iI i0,.U bz r1,iI i2,iI i3,.agg l4,.U az r5,.U ay r6]=(bif aW i3 i2 then bI i3 r1<|bO (G Hn [bf (ba r1 i3),.agg (sT (ab bm 0 l4) [(61,.aa 1),(62,.aa 2)]),.U az r5,.U ay r6]) λ_ o1=>bif !(gB o1 0)then rN G N n [iI i0,.U bz r1,iI i2,cm i3,.agg (sT (ab bm 0 (gC o1 1)) [(61,.aa 1),(62,.aa 2)]),.U az (gR o1 2),.U ay (gR o1 3)]else aB (aW 0 (ln (gR (ba r1 i3) 12)))<|bO (Mw G N [.agg (sT (ab bm 0 (gC o1 1)) [(61,.aa 1),(62,.aa 2)]),.U az (gR o1 2),.U ay (gR o1 3),bN (gA (gR (ba r1 i3) 12) 0)]) λ_ o2=>bO (Mv G N [.agg (sT (ab bm 0 (gC o2 0)) [(61,.aa 1),(62,.aa 2)]),.U az (gR o2 1),.U ay (gR o2 2),bN (gC o2 3)]) λq3 o3=>bif cH q3 then aB (aW 0 (ln (gR (gC o3 3) 8)))<|aB (aW 1 (ln (gR (gC o3 3) 8)))<|bO (G Av [bN (gA (gR (gC o3 3) 8) 1),.agg (sT (ab bm 0 (gC o3 0)) [(61,.aa 1),(62,.aa 2)]),.U az (gR o3 1),.U ay (gR o3 2)]) λ_ o4=>bif gB o4 0 then bO (Dc G N [.agg (sT (ab bm 0 (gC o4 1)) [(61,.aa 1),(62,.aa 2)]),.U az (gR o4 2),.U ay (gR o4 3),bN (gA (gR (gC o3 3) 8) 1),bN (gA (gR (gC o3 3) 8) 0)]) λ_ o6=>bif gB o6 0 then rN G N n [cm i0,.U bz r1,iI i2,cm i3,.agg (sT (ab bm 0 (gC o6 1)) [(57,iI (gI (gC o6 5) 2)),(61,.aa 1),(62,.aa 2)]),.U az (gR o6 2),.U ay (gR o6 3)]else rN G N n [iI i0,.U bz r1,iI i2,cm i3,.agg (sT (ab bm 0 (gC o6 1)) [(61,.aa 1),(62,.aa 2)]),.U az (gR o6 2),.U ay (gR o6 3)]else bO (Dc G N [.agg (sT (ab bm 0 (gC o4 1)) [(61,.aa 1),(62,.aa 2)]),.U az (gR o4 2),.U ay (gR o4 3),bN (gA (gR (gC o3 3) 8) 0),bN (gA (gR (gC o3 3) 8) 1)]) λ_ o7=>bif gB o7 0 then rN G N n [cm i0,.U bz r1,iI i2,cm i3,.agg (sT (ab bm 0 (gC o7 1)) [(57,iI (gI (gC o7 5) 2)),(61,.aa 1),(62,.aa 2)]),.U az (gR o7 2),.U ay (gR o7 3)]else rN G N n [iI i0,.U bz r1,iI i2,cm i3,.agg (sT (ab bm 0 (gC o7 1)) [(61,.aa 1),(62,.aa 2)]),.U az (gR o7 2),.U ay (gR o7 3)]else rN G N n [iI i0,.U bz r1,iI i2,cm i3,.agg (sT (ab bm 0 (gC o3 0)) [(61,.aa 1),(62,.aa 2)]),.U az (gR o3 1),.U ay (gR o3 2)]else af [iI i0,.agg (sT (ab bm 0 l4) [(61,.aa 1),(62,.aa 2)]),.U az r5,.U ay r6]:aF):=by kernel_rfl
def aix:bC CX EE G N Hg [.agg l0,.U az r1,.U ay r2]=(bO (rN G N N [iI 0,.U bz (gR l0 53),iI (ln (gR l0 53)),iI 0,.agg (sT (ab bm 0 l0) [(61,.aa 1),(62,.aa 2)]),.U az r1,.U ay r2]) λ_ o8=>bif gI o8 0==1 then bif cj 1 (gI (gC o8 1) 57)then af [.bool (cj (gI (gC o8 1) 57) 2147483647),.agg (sT (ab bm 0 (gC o8 1)) [(61,.aa 1),(62,.aa 2)]),.U az (gR o8 2),.U ay (gR o8 3)]else af [.bool false,.agg (sT (ab bm 0 (gC o8 1)) [(61,.aa 1),(62,.aa 2)]),.U az (gR o8 2),.U ay (gR o8 3)]else af [.bool false,.agg (sT (ab bm 0 (gC o8 1)) [(61,.aa 1),(62,.aa 2)]),.U az (gR o8 2),.U ay (gR o8 3)]:aF):=by kernel_rfl
def ahX:bC CX EE G N Ha [.agg l0,.agg l1,.agg l2,.agg l3,.U az r4,.U ay r5]=(bO (G Hn [bf l0,.agg (sT (ab bm 0 l3) [(61,.aa 1),(62,.aa 2)]),.U az r4,.U ay r5]) λ_ o1=>bif gB o1 0 then aB (aW 0 (ln (gR l0 12)))<|bif gI (gA (gR l0 12) 0) 0==1 then aB (aW 0 (ln (gR l0 12)))<|af [.agg [.ptr 2 0 0],.agg [iI (bo (gI l2 0+1))],.agg (sT (ab bm 0 (gC o1 1)) [(59,iI (gI (gA (gR l0 12) 0) 2)),(61,.aa 3),(62,.aa 4)]),.U az (gR o1 2),.U ay (gR o1 3)]else af [.agg [.ptr 2 0 0],.agg [iI (gI l2 0)],.agg (sT (ab bm 0 (gC o1 1)) [(61,.aa 3),(62,.aa 4)]),.U az (gR o1 2),.U ay (gR o1 3)]else af [.agg [.ptr 2 0 0],.agg [iI (gI l2 0)],.agg (sT (ab bm 0 (gC o1 1)) [(61,.aa 3),(62,.aa 4)]),.U az (gR o1 2),.U ay (gR o1 3)]:aF):=by kernel_rfl
def VS:Da G N (n+1) [.U aZ r0,iI i1,iI i2,.agg l3,.U az r4,.U ay r5,.agg l6,.agg l7]=(bif aW i2 i1 then bI i2 r0<|bO (G Ha [bf (ba r0 i2),.agg [.ptr 2 0 0],.agg [iI (gI l7 0)],.agg (sT (ab bm 0 l3) [(61,.aa 3),(62,.aa 4)]),.U az r4,.U ay r5]) λ_ o2=>Da G N n [.U aZ r0,iI i1,cm i2,.agg (sT (ab bm 0 (gC o2 2)) [(61,.aa 1),(62,.aa 2)]),.U az (gR o2 3),.U ay (gR o2 4),.agg [.ptr 0 0 0],.agg [iI (gI (gC o2 1) 0)]]else af [.agg (sT (ab bm 0 l3) [(61,.aa 1),(62,.aa 2)]),.U az r4,.U ay r5,.agg [.ptr 0 0 0],.agg [iI (gI l7 0)]]:aF):=by kernel_rfl
def VZ:Dg G N (n+1) [.U bz r0,iI i1,iI i2,.agg l3,.U az r4,.U ay r5,.agg l6,.agg l7]=(bif aW i2 i1 then bI i2 r0<|bO (G Ha [bf (ba r0 i2),.agg [.ptr 2 0 0],.agg [iI (gI l7 0)],.agg (sT (ab bm 0 l3) [(61,.aa 3),(62,.aa 4)]),.U az r4,.U ay r5]) λ_ o1=>bif gI (ba r0 i2) 0==3 then bO (Da G N N [.U aZ (gR (ba r0 i2) 17),iI (ln (gR (ba r0 i2) 17)),iI 0,.agg (sT (ab bm 0 (gC o1 2)) [(61,.aa 1),(62,.aa 2)]),.U az (gR o1 3),.U ay (gR o1 4),.agg [.ptr 0 0 0],.agg [iI (gI (gC o1 1) 0)]]) λ_ o3=>Dg G N n [.U bz r0,iI i1,cm i2,.agg (sT (ab bm 0 (gC o3 0)) [(61,.aa 1),(62,.aa 2)]),.U az (gR o3 1),.U ay (gR o3 2),.agg [.ptr 0 0 0],.agg [iI (gI (gC o3 4) 0)]]else Dg G N n [.U bz r0,iI i1,cm i2,.agg (sT (ab bm 0 (gC o1 2)) [(61,.aa 1),(62,.aa 2)]),.U az (gR o1 3),.U ay (gR o1 4),.agg [.ptr 0 0 0],.agg [iI (gI (gC o1 1) 0)]]else af [.agg (sT (ab bm 0 l3) [(61,.aa 1),(62,.aa 2)]),.U az r4,.U ay r5,.agg [.ptr 0 0 0],.agg [iI (gI l7 0)]]:aF):=by kernel_rfl
end
noncomputable section
variable {G:Nat->aD->Option UO} {N n:Nat} {a0:AV} {i0 i1 i2 i3:Int} {l0 l1 l2 l3 l4 l5 l6 l7:aD} {r0 r1 r2 r3 r4 r5 r6 r7 r8 r9:aH}
def aiy:bC CX EE G N Hh [.agg l0,.U az r1,.U ay r2]=(bO (Dg G N N [.U bz (gR l0 28),iI (ln (gR l0 28)),iI 0,.agg (sT (ab bm 0 l0) [(61,.aa 1),(62,.aa 2)]),.U az r1,.U ay r2,.agg [.ptr 0 0 0],.agg [iI 0]]) λ_ o4=>bif gI (gC o4 4) 0==1 then bif cj 0 (gI (gC o4 0) 59)then af [.bool (cj (gI (gC o4 0) 59) 2147483647),.agg (sT (ab bm 0 (gC o4 0)) [(61,.aa 1),(62,.aa 2)]),.U az (gR o4 1),.U ay (gR o4 2)]else af [.bool false,.agg (sT (ab bm 0 (gC o4 0)) [(61,.aa 1),(62,.aa 2)]),.U az (gR o4 1),.U ay (gR o4 2)]else af [.bool false,.agg (sT (ab bm 0 (gC o4 0)) [(61,.aa 1),(62,.aa 2)]),.U az (gR o4 1),.U ay (gR o4 2)]:aF):=by kernel_rfl
def aic:bC CX EE G N He [.agg l0,.agg l1,.U az r2,.U ay r3]=(bif gI l0 0 != 3 then af [.bool (gI l0 1==gI l1 54),.agg (sT (ab bm 0 l1) [(61,.aa 1),(62,.aa 2)]),.U az r2,.U ay r3]else af [.bool false,.agg (sT (ab bm 0 l1) [(61,.aa 1),(62,.aa 2)]),.U az r2,.U ay r3]:aF):=by kernel_rfl
def Vp:C7 G N (n+1) [.U aL r0,iI i1,iI i2,.agg l3,.U az r4,.U ay r5]=(bif aW i2 i1 then bI i2 r0<|bO (G He [jb (ba r0 i2),.agg (sT (ab bm 0 l3) [(61,.aa 1),(62,.aa 2)]),.U az r4,.U ay r5]) λ_ o1=>bif gB o1 0 then af [iI i2,.agg (sT (ab bm 0 (gC o1 1)) [(61,.aa 1),(62,.aa 2)]),.U az (gR o1 2),.U ay (gR o1 3)]else C7 G N n [.U aL r0,iI i1,cm i2,.agg (sT (ab bm 0 (gC o1 1)) [(61,.aa 1),(62,.aa 2)]),.U az (gR o1 2),.U ay (gR o1 3)]else br [.agg (sT (ab bm 0 l3) [(61,.aa 1),(62,.aa 2)]),.U az r4,.U ay r5]:aF):=by kernel_rfl
def Vv:bC CX EE G N Ma [.U aL r0,.agg l1,.U az r2,.U ay r3]=(bO (C7 G N N [.U aL r0,iI (ln r0),iI 0,.agg (sT (ab bm 0 l1) [(61,.aa 1),(62,.aa 2)]),.U az r2,.U ay r3]) λq2 o2=>bif cH q2 then af [iI (gI o2 0),.agg (sT (ab bm 0 (gC o2 1)) [(61,.aa 1),(62,.aa 2)]),.U az (gR o2 2),.U ay (gR o2 3)]else af [iI (-1),.agg (sT (ab bm 0 (gC o2 0)) [(61,.aa 1),(62,.aa 2)]),.U az (gR o2 1),.U ay (gR o2 2)]:aF):=by kernel_rfl
def agf:bC CX EE G N C6 [.U aL r0,.agg l1,.U az r2,.U ay r3]=(bO (G Ma [.U aL r0,.agg (sT (ab bm 0 l1) [(61,.aa 1),(62,.aa 2)]),.U az r2,.U ay r3]) λ_ o1=>af [.bool (cj 0 (gI o1 0)),.agg (sT (ab bm 0 (gC o1 1)) [(61,.aa 1),(62,.aa 2)]),.U az (gR o1 2),.U ay (gR o1 3)]:aF):=by kernel_rfl
def ahC:MF G N [.agg l0,.agg l1,.agg l2,.U az r3,.U ay r4,.agg l5]=(bif gI l5 0==6 then bif gI l5 2==gI l2 54 then af [.bool true,.agg [.ptr 2 0 0],.agg [iI (gI l1 0)],.agg (sT (ab bm 0 l2) [(61,.aa 3),(62,.aa 4)]),.U az r3,.U ay r4,fq l5]else bif gI l5 0==16 then bO (G C6 [.U aL (gR l5 15),.agg (sT (ab bm 0 l2) [(61,.aa 1),(62,.aa 2)]),.U az r3,.U ay r4]) λ_ o1=>af [.bool (gB o1 0),.agg [.ptr 2 0 0],.agg [iI (gI l1 0)],.agg (sT (ab bm 0 (gC o1 1)) [(61,.aa 3),(62,.aa 4)]),.U az (gR o1 2),.U ay (gR o1 3),fq l5]else af [.bool false,.agg [.ptr 2 0 0],.agg [iI (gI l1 0)],.agg (sT (ab bm 0 l2) [(61,.aa 3),(62,.aa 4)]),.U az r3,.U ay r4,fq l5]else bif gI l5 0==16 then bO (G C6 [.U aL (gR l5 15),.agg (sT (ab bm 0 l2) [(61,.aa 1),(62,.aa 2)]),.U az r3,.U ay r4]) λ_ o2=>af [.bool (gB o2 0),.agg [.ptr 2 0 0],.agg [iI (gI l1 0)],.agg (sT (ab bm 0 (gC o2 1)) [(61,.aa 3),(62,.aa 4)]),.U az (gR o2 2),.U ay (gR o2 3),fq l5]else af [.bool false,.agg [.ptr 2 0 0],.agg [iI (gI l1 0)],.agg (sT (ab bm 0 l2) [(61,.aa 3),(62,.aa 4)]),.U az r3,.U ay r4,fq l5]:aF):=by kernel_rfl
def aie:bC CX EE G N MO [.agg l0,.agg l1,.agg l2,.agg l3,.U az r4,.U ay r5]=(bO (MF G N [.agg [.ptr 2 0 0],.agg [iI (gI l2 0)],.agg (sT (ab bm 0 l3) [(61,.aa 3),(62,.aa 4)]),.U az r4,.U ay r5,fq l0]) λ_ o3=>bif gB o3 0 then af [.agg [.ptr 2 0 0],.agg [iI (bo (gI (gC o3 2) 0+1))],.agg (sT (ab bm 0 (gC o3 3)) [(61,.aa 3),(62,.aa 4)]),.U az (gR o3 4),.U ay (gR o3 5)]else bif aW 0 (ln (gR (gC o3 6) 14))then aB (aW 0 (ln (gR (gC o3 6) 14)))<|bO (G He [jb (gA (gR (gC o3 6) 14) 0),.agg (sT (ab bm 0 (gC o3 3)) [(61,.aa 1),(62,.aa 2)]),.U az (gR o3 4),.U ay (gR o3 5)]) λ_ o4=>bif gB o4 0 then af [.agg [.ptr 2 0 0],.agg [iI (bo (gI (gC o3 2) 0+1))],.agg (sT (ab bm 0 (gC o4 1)) [(61,.aa 3),(62,.aa 4)]),.U az (gR o4 2),.U ay (gR o4 3)]else af [.agg [.ptr 2 0 0],.agg [iI (gI (gC o3 2) 0)],.agg (sT (ab bm 0 (gC o4 1)) [(61,.aa 3),(62,.aa 4)]),.U az (gR o4 2),.U ay (gR o4 3)]else af [.agg [.ptr 2 0 0],.agg [iI (gI (gC o3 2) 0)],.agg (sT (ab bm 0 (gC o3 3)) [(61,.aa 3),(62,.aa 4)]),.U az (gR o3 4),.U ay (gR o3 5)]:aF):=by kernel_rfl
def Vr:GX G N (n+1) [iI i0,iI i1,.agg l2,.agg l3,.agg l4,.U az r5,.U ay r6,.U bz r7]=(bif aW i1 i0 then bI i1 r7<|aB (gH (i1.toNat) (r7.length))<|bO (G GZ [fq (ba r7 i1),.agg [.ptr 2 0 0],.agg [iI (gI l3 0)],.agg (sT (ab bm 0 l4) [(61,.aa 3),(62,.aa 4)]),.U az r5,.U ay r6]) λ_ o3=>GX G N n [iI i0,cm i1,.agg [.ptr 2 0 0],.agg [iI (gI (gC o3 1) 0)],.agg (sT (ab bm 0 (gC o3 2)) [(61,.aa 3),(62,.aa 4)]),.U az (gR o3 3),.U ay (gR o3 4),.U bz r7]else af [.agg [.ptr 2 0 0],.agg [iI (gI l3 0)],.agg (sT (ab bm 0 l4) [(61,.aa 3),(62,.aa 4)]),.U az r5,.U ay r6,.U bz r7]:aF):=by kernel_rfl
def agr:bC CX EE G N GZ [.agg l0,.agg l1,.agg l2,.agg l3,.U az r4,.U ay r5]=(bO (G MO [fq l0,.agg [.ptr 2 0 0],.agg [iI (gI l2 0)],.agg (sT (ab bm 0 l3) [(61,.aa 3),(62,.aa 4)]),.U az r4,.U ay r5]) λ_ o1=>bO (G ug [fq l0]) λ_ o2=>bO (GX G N N [iI (ln (gR o2 0)),iI 0,.agg [.ptr 2 0 0],.agg [iI (gI (gC o1 1) 0)],.agg (sT (ab bm 0 (gC o1 2)) [(61,.aa 3),(62,.aa 4)]),.U az (gR o1 3),.U ay (gR o1 4),.U bz (gR o2 0)]) λ_ o4=>af [.agg [.ptr 2 0 0],.agg [iI (gI (gC o4 1) 0)],.agg (sT (ab bm 0 (gC o4 2)) [(61,.aa 3),(62,.aa 4)]),.U az (gR o4 3),.U ay (gR o4 4)]:aF):=by kernel_rfl
def aid:bC CX EE G N MN [.agg l0,.agg l1,.agg l2,.U az r3,.U ay r4]=(bO (G sO [.U ak (gR l0 4),iI (gI l2 54)]) λ_ o1=>af [.bool (gB o1 0),.agg [.ptr 1 0 0],.agg (sT (ab bm 0 l2) [(61,.aa 2),(62,.aa 3)]),.U az r3,.U ay r4]:aF):=by kernel_rfl
def Vt:C8 G N (n+1) [.U bE r0,iI i1,iI i2,.agg l3,.agg l4,.U az r5,.U ay r6]=(bif aW i2 i1 then bI i2 r0<|bO (G MN [v5 (ba r0 i2),.agg [.ptr 1 0 0],.agg (sT (ab bm 0 l4) [(61,.aa 2),(62,.aa 3)]),.U az r5,.U ay r6]) λ_ o1=>bif gB o1 0 then af [iI i2,.agg [.ptr 1 0 0],.agg (sT (ab bm 0 (gC o1 2)) [(61,.aa 2),(62,.aa 3)]),.U az (gR o1 3),.U ay (gR o1 4)]else C8 G N n [.U bE r0,iI i1,cm i2,.agg [.ptr 1 0 0],.agg (sT (ab bm 0 (gC o1 2)) [(61,.aa 2),(62,.aa 3)]),.U az (gR o1 3),.U ay (gR o1 4)]else br [.agg [.ptr 1 0 0],.agg (sT (ab bm 0 l4) [(61,.aa 2),(62,.aa 3)]),.U az r5,.U ay r6]:aF):=by kernel_rfl
def VA:bC CX EE G N Me [.U bE r0,.agg l1,.agg l2,.U az r3,.U ay r4]=(bO (C8 G N N [.U bE r0,iI (ln r0),iI 0,.agg [.ptr 1 0 0],.agg (sT (ab bm 0 l2) [(61,.aa 2),(62,.aa 3)]),.U az r3,.U ay r4]) λq2 o2=>bif cH q2 then af [iI (gI o2 0),.agg [.ptr 1 0 0],.agg (sT (ab bm 0 (gC o2 2)) [(61,.aa 2),(62,.aa 3)]),.U az (gR o2 3),.U ay (gR o2 4)]else af [iI (-1),.agg [.ptr 1 0 0],.agg (sT (ab bm 0 (gC o2 1)) [(61,.aa 2),(62,.aa 3)]),.U az (gR o2 2),.U ay (gR o2 3)]:aF):=by kernel_rfl
def agl:bC CX EE G N L9 [.U bE r0,.agg l1,.agg l2,.U az r3,.U ay r4]=(bO (G Me [.U bE r0,.agg [.ptr 1 0 0],.agg (sT (ab bm 0 l2) [(61,.aa 2),(62,.aa 3)]),.U az r3,.U ay r4]) λ_ o1=>af [.bool (cj 0 (gI o1 0)),.agg [.ptr 1 0 0],.agg (sT (ab bm 0 (gC o1 2)) [(61,.aa 2),(62,.aa 3)]),.U az (gR o1 3),.U ay (gR o1 4)]:aF):=by kernel_rfl
def V5:Hc G N (n+1) [.U cT r0,iI i1,iI i2,.agg l3,.U az r4,.U ay r5,.agg l6,.agg l7]=(bif aW i2 i1 then bI i2 r0<|bO (G GZ [.agg (sT (ab pB 2 (ba r0 i2)) [(21,iI 0)]),.agg [.ptr 2 0 0],.agg [iI (gI l7 0)],.agg (sT (ab bm 0 l3) [(61,.aa 3),(62,.aa 4)]),.U az r4,.U ay r5]) λ_ o1=>Hc G N n [.U cT r0,iI i1,cm i2,.agg (sT (ab bm 0 (gC o1 2)) [(61,.aa 1),(62,.aa 2)]),.U az (gR o1 3),.U ay (gR o1 4),.agg [.ptr 0 0 0],.agg [iI (gI (gC o1 1) 0)]]else af [.agg (sT (ab bm 0 l3) [(61,.aa 1),(62,.aa 2)]),.U az r4,.U ay r5,.agg [.ptr 0 0 0],.agg [iI (gI l7 0)]]:aF):=by kernel_rfl
def aiQ:bC CX EE G N Hi [.agg l0,.U az r1,.U ay r2]=(bO (Hc G N N [.U cT (gR l0 2),iI (ln (gR l0 2)),iI 0,.agg (sT (ab bm 0 l0) [(61,.aa 1),(62,.aa 2)]),.U az r1,.U ay r2,.agg [.ptr 0 0 0],.agg [iI 0]]) λ_ o2=>bif gI (gC o2 4) 0==2 then bO (G L9 [.U bE (gR (gC o2 0) 0),.agg [.ptr 1 0 0],.agg (sT (ab bm 0 (gC o2 0)) [(61,.aa 2),(62,.aa 3)]),.U az (gR o2 1),.U ay (gR o2 2)]) λ_ o3=>af [.bool (!(gB o3 0)),.agg (sT (ab bm 0 (gC o3 2)) [(61,.aa 1),(62,.aa 2)]),.U az (gR o3 3),.U ay (gR o3 4)]else af [.bool false,.agg (sT (ab bm 0 (gC o2 0)) [(61,.aa 1),(62,.aa 2)]),.U az (gR o2 1),.U ay (gR o2 2)]:aF):=by kernel_rfl
def ahY:bC CX EE G N Hb [.agg l0,.U az r1,.U ay r2]=(bI (gI l0 4) (gR l0 2)<|bif gI (ba (gR l0 2) (gI l0 4)) 23==0 then af [.bool (cj (gI l0 57) (gI l0 57)),.agg (sT (ab bm 0 l0) [(55,iI (gI l0 4)),(56,iI (gI (ba (gR l0 2) (gI l0 4)) 0)),(58,iI (gI l0 57)),(61,.aa 1),(62,.aa 2)]),.U az r1,.U ay r2]else af [.bool (cj (gI (ba (gR l0 2) (gI l0 4)) 23) (gI l0 57)),.agg (sT (ab bm 0 l0) [(55,iI (gI l0 4)),(56,iI (gI (ba (gR l0 2) (gI l0 4)) 0)),(58,iI (gI (ba (gR l0 2) (gI l0 4)) 23)),(61,.aa 1),(62,.aa 2)]),.U az r1,.U ay r2]:aF):=by kernel_rfl
def aiw:bC CX EE G N MR [.agg l0,.agg l1,.agg l2,.agg l3,.U ay r4,.agg l5,.U az r6,.U ay r7]=(bif gI l0 0==20 then aB (gH ((gI l0 4).toNat) (r4.length)&&true&&(gV (ba r4 (gI l0 4)) 0).pU)<|bI (gI l0 4) r4<|aB (gH ((gI l0 4).toNat) (r4.length))<|aB (Nat.beq ((gI l0 4).toNat) ((gI l0 4).toNat))<|aB (jm ((((gV (ba r4 (gI l0 4)) 0).rows).length +1)*8) 140737488355328)<|bI (gI l0 4) r4<|aB (gH ((gI l0 4).toNat) (r4.length)&&(Nat.beq ((gI l0 4).toNat) ((gI l0 4).toNat)&&true))<|bif gB l2 0 then bI (gI l0 4) (gR l5 3)<|af [.agg [.aa 3],.agg [.bool (cj (gI l5 56) (gI (ba (gR l5 3) (gI l0 4)) 0))],.agg [.ptr 4 0 0],.U ay (r4.set ((gI l0 4).toNat) ((gA r4 ((gI l0 4).toNat)).set 0 (.sub ak (((gV (ba r4 (gI l0 4)) 0).rows)++(([[iI (gI l0 21)]]:aH)))))),.agg (sT (ab bm 0 l5) [(61,.aa 5),(62,.aa 6)]),.U az r6,.U ay r7]else af [.agg [.aa 3],.agg [.bool false],.agg [.ptr 4 0 0],.U ay (r4.set ((gI l0 4).toNat) ((gA r4 ((gI l0 4).toNat)).set 0 (.sub ak (((gV (ba r4 (gI l0 4)) 0).rows)++(([[iI (gI l0 21)]]:aH)))))),.agg (sT (ab bm 0 l5) [(61,.aa 5),(62,.aa 6)]),.U az r6,.U ay r7]else af [.agg [.aa 3],.agg [.bool (gB l2 0)],.agg [.ptr 4 0 0],.U ay r4,.agg (sT (ab bm 0 l5) [(61,.aa 5),(62,.aa 6)]),.U az r6,.U ay r7]:aF):=by kernel_rfl
def Vu:GY G N (n+1) [iI i0,iI i1,.agg l2,.agg l3,.agg l4,.U ay r5,.agg l6,.U az r7,.U ay r8,.U bz r9]=(bif aW i1 i0 then bI i1 r9<|aB (gH (i1.toNat) (r9.length))<|bO (G G1 [fq (ba r9 i1),.agg [.aa 3],.agg [.bool (gB l3 0)],.agg [.ptr 4 0 0],.U ay r5,.agg (sT (ab bm 0 l6) [(61,.aa 5),(62,.aa 6)]),.U az r7,.U ay r8]) λ_ o3=>GY G N n [iI i0,cm i1,.agg [.aa 3],.agg [.bool (gB (gC o3 1) 0)],.agg [.ptr 4 0 0],.U ay (gR o3 3),.agg (sT (ab bm 0 (gC o3 4)) [(61,.aa 5),(62,.aa 6)]),.U az (gR o3 5),.U ay (gR o3 6),.U bz r9]else af [.agg [.aa 3],.agg [.bool (gB l3 0)],.agg [.ptr 4 0 0],.U ay r5,.agg (sT (ab bm 0 l6) [(61,.aa 5),(62,.aa 6)]),.U az r7,.U ay r8,.U bz r9]:aF):=by kernel_rfl
def agw:bC CX EE G N G1 [.agg l0,.agg l1,.agg l2,.agg l3,.U ay r4,.agg l5,.U az r6,.U ay r7]=(bO (G MR [fq l0,.agg [.aa 3],.agg [.bool (gB l2 0)],.agg [.ptr 4 0 0],.U ay r4,.agg (sT (ab bm 0 l5) [(61,.aa 5),(62,.aa 6)]),.U az r6,.U ay r7]) λ_ o1=>bO (G ug [fq l0]) λ_ o2=>bO (GY G N N [iI (ln (gR o2 0)),iI 0,.agg [.aa 3],.agg [.bool (gB (gC o1 1) 0)],.agg [.ptr 4 0 0],.U ay (gR o1 3),.agg (sT (ab bm 0 (gC o1 4)) [(61,.aa 5),(62,.aa 6)]),.U az (gR o1 5),.U ay (gR o1 6),.U bz (gR o2 0)]) λ_ o4=>af [.agg [.aa 3],.agg [.bool (gB (gC o4 1) 0)],.agg [.ptr 4 0 0],.U ay (gR o4 3),.agg (sT (ab bm 0 (gC o4 4)) [(61,.aa 5),(62,.aa 6)]),.U az (gR o4 5),.U ay (gR o4 6)]:aF):=by kernel_rfl
def V4:Di G N (n+1) [.U bz r0,iI i1,iI i2,.agg l3,.agg l4,.agg l5,.agg l6,.U ay r7,.U az r8,.U ay r9]=(bif aW i2 i1 then bI i2 r0<|bO (G G1 [fq (ba r0 i2),.agg [.aa 3],.agg [.bool (gB l5 0)],.agg [.ptr 4 0 0],.U ay r7,.agg (sT (ab bm 0 l6) [(61,.aa 5),(62,.aa 6)]),.U az r8,.U ay r9]) λ_ o1=>Di G N n [.U bz r0,iI i1,cm i2,.agg [.ptr 3 0 0],.agg [.aa 4],.agg [.bool (gB (gC o1 1) 0)],.agg (sT (ab bm 0 (gC o1 4)) [(61,.aa 5),(62,.aa 6)]),.U ay (gR o1 3),.U az (gR o1 5),.U ay (gR o1 6)]else af [.agg [.ptr 3 0 0],.agg [.aa 4],.agg [.bool (gB l5 0)],.agg (sT (ab bm 0 l6) [(61,.aa 5),(62,.aa 6)]),.U ay r7,.U az r8,.U ay r9]:aF):=by kernel_rfl
def ah9:MP G N [.agg l0,.agg l1,.agg l2,.agg l3,.U ay r4,.U az r5,.U ay r6]=(bO (Di G N N [.U bz (gR l3 53),iI (ln (gR l3 53)),iI 0,.agg [.ptr 3 0 0],.agg [.aa 4],.agg [.bool (gB l2 0)],.agg (sT (ab bm 0 l3) [(61,.aa 5),(62,.aa 6)]),.U ay r4,.U az r5,.U ay r6]) λ_ o2=>af [.agg [.ptr 3 0 0],.agg [.aa 4],.agg [.bool (gB (gC o2 2) 0)],.agg (sT (ab bm 0 (gC o2 3)) [(61,.aa 5),(62,.aa 6)]),.U ay (gR o2 4),.U az (gR o2 5),.U ay (gR o2 6)]:aF):=by kernel_rfl
def V3:Ar G N (n+1) [iI i0,iI i1,.agg l2,.U ay r3,.agg l4,.U az r5,.U ay r6]=(bif aW i1 i0 then bI i1 r3<|aB (gH (i1.toNat) (r3.length))<|bif aW 0 (ln (gR (ba r3 i1) 0))then aB (jm ((r5.length+1)*16) 140737488355328)<|aB (jm ((r6.length+1)*24) 140737488355328)<|Ar G N n [iI i0,cm i1,.agg [.ptr 2 0 0],.U ay r3,.agg (sT (ab bm 0 l4) [(61,.aa 3),(62,.aa 4)]),.U az (r5++(([[iI i1,iI 0]]:aH))),.U ay (r6++(([[.U ak (gR (ba r3 i1) 0)]]:aH)))]else Ar G N n [iI i0,cm i1,.agg [.ptr 2 0 0],.U ay r3,.agg (sT (ab bm 0 l4) [(61,.aa 3),(62,.aa 4)]),.U az r5,.U ay r6]else af [.agg [.ptr 2 0 0],.U ay r3,.agg (sT (ab bm 0 l4) [(61,.aa 3),(62,.aa 4)]),.U az r5,.U ay r6]:aF):=by kernel_rfl
def ajr:bC CX EE G N Hm [.agg l0,.U az r1,.U ay r2]=(aB (cj 0 (ln (gR l0 3))&&cj (ln (gR l0 3)) (ln (gR l0 3))&&cj ((ln (gR l0 3))*24) 140737488355328)<|bO (MP G N [.agg [.ptr 3 0 0],.agg [.aa 4],.agg [.bool true],.agg (sT (ab bm 0 l0) [(61,.aa 5),(62,.aa 6)]),.U ay (List.replicate ((ln (gR l0 3)).toNat) ([.sub ak ([])]:Row)),.U az r1,.U ay r2]) λ_ o3=>bO (Ar G N N [iI (ln ((gR o3 4).map (λr=>r.map ae.AV.qB))),iI 0,.agg [.ptr 2 0 0],.U ay ((gR o3 4).map (λr=>r.map ae.AV.qB)),.agg (sT (ab bm 0 (gC o3 3)) [(61,.aa 3),(62,.aa 4)]),.U az (gR o3 5),.U ay (gR o3 6)]) λ_ o4=>af [.bool (gB (gC o3 2) 0),.agg (sT (ab bm 0 (gC o4 2)) [(61,.aa 3),(62,.aa 4)]),.U az (gR o4 3),.U ay (gR o4 4)]:aF):=by kernel_rfl
def WD:uh G N (n+1) [iI i0,.U cT r1,iI i2,iI i3,.agg l4,.U fO r5]=(bif aW i3 i2 then bI i3 r1<|bif aW 0 i3 then bO (G Aw [.agg [.U bE (gR l4 0),iI (gI l4 1),.U cT (gR l4 2),.U dN (gR l4 3),iI i3,iI i0,.int .u8 0,iI 0,iI 0,iI 0,iI 0,iI 0,.bool false,.bool false,.bool false,.bool false,.bool false,.int .u8 0,.U ax ([]),.U ax ([]),.U aL ([]),.U aL ([]),.U ak bF,.U aZ ([]),.U bD ([]),.U bK ([]),.U bP ([]),iI 0,.U bz ([]),.bool false,.bool false,.int .u8 0,iI 0,iI 0,iI 0,iI 0,iI 0,.bool false,.bool false,.bool false,.bool false,.bool false,.int .u8 0,.U ax ([]),.U ax ([]),.U aL ([]),.U aL ([]),.U ak bF,.U aZ ([]),.U bD ([]),.U bK ([]),.U bP ([]),iI 0,.U bz ([]),iI 0,iI 0,iI 0,iI 0,iI 0,iI 0,iI 0,.aa 1,.aa 2],.U az bF,.U ay bF]) λ_ o5=>bif !(gB o5 0)then af [iI 370,dz l4,.U fO bF]else bO (G Hg [.agg (sT (ab bm 0 (gC o5 1)) [(61,.aa 1),(62,.aa 2)]),.U az (gR o5 2),.U ay (gR o5 3)]) λ_ o6=>bif !(gB o6 0)then af [iI 370,dz l4,.U fO bF]else bO (G Hh [.agg (sT (ab bm 0 (gC o6 1)) [(61,.aa 1),(62,.aa 2)]),.U az (gR o6 2),.U ay (gR o6 3)]) λ_ o7=>bif !(gB o7 0)then af [iI 370,dz l4,.U fO bF]else bO (G Hi [.agg (sT (ab bm 0 (gC o7 1)) [(61,.aa 1),(62,.aa 2)]),.U az (gR o7 2),.U ay (gR o7 3)]) λ_ o8=>bif !(gB o8 0)then af [iI 370,dz l4,.U fO bF]else bO (G Hb [.agg (sT (ab bm 0 (gC o8 1)) [(61,.aa 1),(62,.aa 2)]),.U az (gR o8 2),.U ay (gR o8 3)]) λ_ o9=>bif !(gB o9 0)then af [iI 370,dz l4,.U fO bF]else bO (G Hm [.agg (sT (ab bm 0 (gC o9 1)) [(61,.aa 1),(62,.aa 2)]),.U az (gR o9 2),.U ay (gR o9 3)]) λ_ cx=>bif !(gB cx 0)then af [iI 371,dz l4,.U fO bF]else aB (jm ((r5.length+1)*8) 140737488355328)<|bO (G qT [.agg (ab dw 2 (ba r1 i3))]) λ_ cr=>uh G N n [iI (bo (i0+gI cr 0)),.U cT r1,iI i2,cm i3,dz l4,.U fO (r5++(([[.ep 102 (sT (ab NH 0 (gC cx 1)) [(61,.U az (gR cx 2)),(62,.U ay (gR cx 3))]) 0]]:aH)))]else bO (G qT [.agg (ab dw 2 (ba r1 i3))]) λ_ dV=>uh G N n [iI (bo (i0+gI dV 0)),.U cT r1,iI i2,cm i3,dz l4,.U fO r5]else br [dz l4,.U fO r5]:aF):=by kernel_rfl
def amm:bC CX EE G N HT [.agg l0]=(bO (G um [dz l0]) λ_ o1=>bif !(gB o1 0)then af [iI 2,.U fO bF]else aB (aW 0 (ln (gR l0 2)))<|bO (G HL [.agg (sT (ab pB 2 (gA (gR l0 2) 0)) [(21,iI 0)]),.bool false]) λ_ o2=>bif gB (gC o2 0) 24 then af [iI 370,.U fO bF]else bO (G yj [.U bz (gR o2 1),.bool false]) λ_ o3=>bif !(gB o3 0)then af [iI 370,.U fO bF]else bO (G Dh [fq (gC o2 0),.bool true]) λ_ o4=>bif !(gB o4 0)then af [iI 370,.U fO bF]else bif ln (gR l0 2)==1 then af [iI 370,.U fO bF]else bO (uh G N N [iI 0,.U cT (gR l0 2),iI (ln (gR l0 2)),iI 0,dz l0,.U fO bF]) λzO gP=>bif cH zO then af [iI (gI gP 0),.U fO (gR gP 2)]else af [iI 0,.U fO (gR gP 1)]:aF):=by kernel_rfl
def WG:AB G N (n+1) [iI i0,iI i1,.U fO r2,.U dY r3]=(bif aW i1 i0 then bI i1 r2<|aB (gH (i1.toNat) (r2.length))<|BS (gV (ba r2 i1) 0) 102 λrI2=>aB (jm ((r3.length+1)*72) 140737488355328)<|AB G N n [iI i0,cm i1,.U fO r2,.U dY (r3++(([ab DL 55 rI2]:aH)))]else af [.U fO r2,.U dY r3]:aF):=by kernel_rfl
def al3:bC CX EE G N vX [.agg l0]=(bO (G HT [dz l0]) λ_ o1=>bO (AB G N N [iI (ln (gR o1 1)),iI 0,.U fO (gR o1 1),.U dY bF]) λ_ o2=>af [iI (gI o1 0),.U dY (gR o2 1)]:aF):=by kernel_rfl
def Wq:yf G N (n+1) [a0,.U ay r1,iI i2,iI i3,.U dM r4]=(bif aW i3 i2 then bI i3 r1<|BS a0 102 λrI6=>aB (jm ((r4.length+1)*40) 140737488355328)<|yf G N n [.ep 102 rI6 0,.U ay r1,iI i2,cm i3,.U dM (r4++(([[iI (gI rI6 4),iI i3,.U ak (gR (ba r1 i3) 0)]]:aH)))]else af [.U dM r4]:aF):=by kernel_rfl
end
noncomputable section
variable {G:Nat->aD->Option UO} {N n:Nat} {i0 i1 i2 i3:Int} {l0 l1 l2 l3 l4:aD} {r0 r1 r2 r3 r4 r5 r6 r7 r8:aH}
def WE:AA G N (n+1) [iI i0,iI i1,.U fO r2,.U dM r3]=(bif aW i1 i0 then bI i1 r2<|aB (gH (i1.toNat) (r2.length))<|BS (gV (ba r2 i1) 0) 102 λzE=>aB (jm ((r3.length+(([[iI (gI zE 4),iI (-1),.U ak (([[iI (gI zE 52)]]:aH))]]:aH)).length)*40) 140737488355328)<|bO (yf G N N [.ep 102 zE 0,.U ay (gR zE 62),iI (ln (gR zE 62)),iI 0,.U dM (r3++(([[iI (gI zE 4),iI (-1),.U ak (([[iI (gI zE 52)]]:aH))]]:aH)))]) λ_ o2=>AA G N n [iI i0,cm i1,.U fO r2,.U dM (gR o2 0)]else af [.U fO r2,.U dM r3]:aF):=by kernel_rfl
def al2:bC CX EE G N DE [.agg l0]=(bO (G HT [dz l0]) λ_ o1=>bO (AA G N N [iI (ln (gR o1 1)),iI 0,.U fO (gR o1 1),.U dM bF]) λ_ o3=>af [iI (gI o1 0),.U dM (gR o3 1)]:aF):=by kernel_rfl
def amS:bC CX EE G N Ot [.U aZ r0]=(bO (G oK [iI 11]) λ_ o1=>bO (G sU [iI 1,bN (gC o1 0)]) λ_ o2=>aB (jm ((1+r0.length)*272) 140737488355328)<|af [.U aZ ((([sT (ab dw 0 (gC o2 0)) [(12,.U ax (gR o2 1)),(14,.U aL (gR o2 2))]]:aH))++r0)]:aF):=by kernel_rfl
def ahH:bC CX EE G N MD [.agg l0,.U bE r1,.U cT r2,.U dN r3]=(aB (aW 1 (ln r2))<|aB (gH 1 (r2.length))<|aB (aW 0 (ln (gR (gA r2 1) 19)))<|aB (aW 0 (ln (gR (gA (gR (gA r2 1) 19) 0) 17)))<|aB (jm ((0+(gR (gA (gR (gA (gR (gA r2 1) 19) 0) 17) 0) 17).length)*272) 140737488355328)<|bO (G Ot [.U aZ ((([]:aH))++(gR (gA (gR (gA (gR (gA r2 1) 19) 0) 17) 0) 17))]) λ_ o1=>bO (G wu [.U aZ (gR o1 0)]) λ_ o2=>aB (aW 1 (ln r2))<|aB (gH 1 (r2.length))<|af [.agg [.aa 0,iI (gI l0 1),.aa 1,.aa 2],.U bE r1,.U cT (r2.set 1 (setAt (gA r2 1) 19 [.U aZ (([sT (ab dw 0 (gA (gR (gA r2 1) 19) 0)) [(17,.U aZ (([ab dw 0 (gC o2 0)]:aH)))]]:aH))])),.U dN r3]:aF):=by kernel_rfl
def alw:bC CX EE G N NX [.U aZ r0]=(bO (G oK [iI 1]) λ_ o1=>aB (jm ((r0.length+1)*272) 140737488355328)<|af [.U aZ (r0++(([[.int .u8 15,iI 0,iI 0,iI 0,iI 0,iI 0,.bool false,.bool false,.bool false,.bool false,.bool false,.int .u8 0,.U ax (([ab js 0 (gC o1 0)]:aH)),.U ax ([]),.U aL ([]),.U aL ([]),.U ak bF,.U aZ ([]),.U bD ([]),.U bK ([]),.U bP ([])]]:aH)))]:aF):=by kernel_rfl
def aiz:bC CX EE G N MS [.agg l0,.U bE r1,.U cT r2,.U dN r3]=(aB (aW 1 (ln r2))<|aB (gH 1 (r2.length))<|aB (aW 0 (ln (gR (gA r2 1) 19)))<|aB (aW 0 (ln (gR (gA (gR (gA r2 1) 19) 0) 17)))<|aB (jm ((0+(gR (gA (gR (gA (gR (gA r2 1) 19) 0) 17) 0) 17).length)*272) 140737488355328)<|bO (G NX [.U aZ ((([]:aH))++(gR (gA (gR (gA (gR (gA r2 1) 19) 0) 17) 0) 17))]) λ_ o1=>bO (G wu [.U aZ (gR o1 0)]) λ_ o2=>aB (aW 1 (ln r2))<|aB (gH 1 (r2.length))<|af [.agg [.aa 0,iI (gI l0 1),.aa 1,.aa 2],.U bE r1,.U cT (r2.set 1 (setAt (gA r2 1) 19 [.U aZ (([sT (ab dw 0 (gA (gR (gA r2 1) 19) 0)) [(17,.U aZ (([ab dw 0 (gC o2 0)]:aH)))]]:aH))])),.U dN r3]:aF):=by kernel_rfl
def ajK:Nn G N [.agg l0,.agg l1]=(bif gI l0 0 != gI l1 0 then br [.bool false,fV l0,fV l1]else bif gI l0 1 != gI l1 1 then br [.bool false,fV l0,fV l1]else bif gI l0 2 != gI l1 2 then br [.bool false,fV l0,fV l1]else bif gI l0 3 != gI l1 3 then br [.bool false,fV l0,fV l1]else bif gI l0 4 != gI l1 4 then br [.bool false,fV l0,fV l1]else bif gI l0 5 != gI l1 5 then br [.bool false,fV l0,fV l1]else bif ln (gR l0 6) != ln (gR l1 6)then br [.bool false,fV l0,fV l1]else af [fV l0,fV l1]:aF):=by kernel_rfl
def Wp:Hs G N (n+1) [iI i0,.agg l1,.agg l2]=(bif aW i0 (ln (gR l1 6))then bI i0 (gR l1 6)<|bI i0 (gR l2 6)<|bif !(((gI (ba (gR l1 6) i0) 0)==(gI (ba (gR l2 6) i0) 0))&&(((gI (ba (gR l1 6) i0) 1)==(gI (ba (gR l2 6) i0) 1))&&true))then af [.bool false,fV l1,fV l2]else Hs G N n [cm i0,fV l1,fV l2]else br [fV l1,fV l2]:aF):=by kernel_rfl
def WL:HE G N (n+1) [.U dY r0,.U dY r1,iI i2]=(bif aW i2 (ln r0)then bI i2 r0<|bI i2 r1<|bO (Nn G N [fV (ba r0 i2),fV (ba r1 i2)]) λq1 o1=>bif cH q1 then bO (Hs G N N [iI 0,fV (gC o1 0),fV (gC o1 1)]) λq2 o2=>bif cH q2 then af [.bool (gB o2 0)]else HE G N n [.U dY r0,.U dY r1,cm i2]else af [.bool (gB o1 0)]else br []:aF):=by kernel_rfl
def alZ:bC CX EE G N N6 [.U dY r0,.U dY r1]=(bif ln r0 != ln r1 then cQ else bO (HE G N N [.U dY r0,.U dY r1,iI 0]) λq3 o3=>bif cH q3 then af [.bool (gB o3 0)]else dr:aF):=by kernel_rfl
def ajL:No G N [.U dM r0,.U dM r1,iI i2]=(bI i2 r0<|bI i2 r1<|bif gI (ba r0 i2) 0 != gI (ba r1 i2) 0 then KG else bI i2 r0<|bI i2 r1<|bif gI (ba r0 i2) 1 != gI (ba r1 i2) 1 then KG else bI i2 r0<|bI i2 r1<|bif ln (gR (ba r0 i2) 2) != ln (gR (ba r1 i2) 2)then KG else af []:aF):=by kernel_rfl
def WC:Hw G N (n+1) [.U dM r0,.U dM r1,iI i2,iI i3]=(bI i2 r0<|bif aW i3 (ln (gR (ba r0 i2) 2))then bI i2 r0<|bI i3 (gR (ba r0 i2) 2)<|bI i2 r1<|bI i3 (gR (ba r1 i2) 2)<|bif gI (ba (gR (ba r0 i2) 2) i3) 0 != gI (ba (gR (ba r1 i2) 2) i3) 0 then cQ else Hw G N n [.U dM r0,.U dM r1,iI i2,cm i3]else br []:aF):=by kernel_rfl
def Nz:HF G N (n+1) [.U dM r0,.U dM r1,iI i2]=(bif aW i2 (ln r0)then bO (No G N [.U dM r0,.U dM r1,iI i2]) λq1 o1=>bif cH q1 then bO (Hw G N N [.U dM r0,.U dM r1,iI i2,iI 0]) λq2 o2=>bif cH q2 then af [.bool (gB o2 0)]else HF G N n [.U dM r0,.U dM r1,cm i2]else af [.bool (gB o1 0)]else br []:aF):=by kernel_rfl
def al0:bC CX EE G N N7 [.U dM r0,.U dM r1]=(bif ln r0 != ln r1 then cQ else bO (HF G N N [.U dM r0,.U dM r1,iI 0]) λq3 o3=>bif cH q3 then af [.bool (gB o3 0)]else dr:aF):=by kernel_rfl
def anM:bC CX EE G N qk [.agg l0,iI i1]=(bO (G vX [dz l0]) λ_ o1=>bO (G DE [dz l0]) λ_ o2=>bif bo (ln (gR o1 1)+ln (gR o2 1))==0 then bif i1==gI o1 0 then af [.bool (i1==gI o2 0)]else cQ else cQ:aF):=by kernel_rfl
def alU:Oc G N [iI i0,iI i1,.U dY r2,.U dM r3]=(bif i0==0 then bif i1==0 then bO (G N6 [.U dY r2,.U dY (([[iI 1,iI 4,iI 20,iI 20,iI 10,iI 0,.U az (([[iI 0,iI 0]]:aH))]]:aH))]) λ_ dV=>bif gB dV 0 then bO (G N7 [.U dM r3,.U dM (([[iI 1,iI (-1),.U ak (([[iI 7]]:aH))],[iI 1,iI 0,.U ak (([[iI 8]]:aH))]]:aH))]) λ_ gP=>af [.bool (gB gP 0),.U dY r2,.U dM r3]else af [.bool false,.U dY r2,.U dM r3]else af [.bool false,.U dY r2,.U dM r3]else af [.bool false,.U dY r2,.U dM r3]:aF):=by kernel_rfl
def anK:bC CX EE G N v8 []=(bO (G uy []) λ_ o1=>bO (G vX [.agg [.U bE (gR o1 1),iI (gI (gC o1 0) 1),.U cT (gR o1 2),.U dN (gR o1 3)]]) λ_ o2=>bO (G uy []) λ_ o3=>bO (G DE [.agg [.U bE (gR o3 1),iI (gI (gC o3 0) 1),.U cT (gR o3 2),.U dN (gR o3 3)]]) λ_ o4=>bO (G uy []) λ_ o5=>bO (G uy []) λ_ o6=>bO (G uy []) λ_ o7=>aB (aW 1 (ln (gR o5 2)))<|aB (gH 1 ((gR o5 2).length))<|aB (aW 1 (ln (gR o6 2)))<|aB (gH 1 ((gR o6 2).length))<|aB (aW 1 (ln (gR o7 2)))<|aB (gH 1 ((gR o7 2).length))<|bO (G uy []) λ_ o8=>bO (G MD [.agg [.aa 0,iI (gI (gC o8 0) 1),.aa 1,.aa 2],.U bE (gR o8 1),.U cT (gR o8 2),.U dN (gR o8 3)]) λ_ o9=>bO (G uy []) λ_ cx=>bO (G MS [.agg [.aa 0,iI (gI (gC cx 0) 1),.aa 1,.aa 2],.U bE (gR cx 1),.U cT (gR cx 2),.U dN (gR cx 3)]) λ_ cr=>bO (Oc G N [iI (gI o2 0),iI (gI o4 0),.U dY (gR o2 1),.U dM (gR o4 1)]) λ_ eX=>bif gB eX 0 then bO (G qk [.agg [.U bE (gR o5 1),iI (gI (gC o5 0) 1),.U cT ((gR o5 2).set 1 (setAt (gA (gR o5 2) 1) 23 [iI 21])),.U dN (gR o5 3)],iI 370]) λ_ dG=>bif gB dG 0 then bO (G qk [.agg [.U bE (gR o6 1),iI (gI (gC o6 0) 1),.U cT ((gR o6 2).set 1 (setAt (gA (gR o6 2) 1) 0 [iI 6])),.U dN (gR o6 3)],iI 371]) λ_ kR=>bif gB kR 0 then bO (G qk [.agg [.U bE (gR o7 1),iI (gI (gC o7 0) 1),.U cT ((gR o7 2).set 1 (setAt (gA (gR o7 2) 1) 0 [iI 0])),.U dN (gR o7 3)],iI 370]) λ_ dU=>bif gB dU 0 then bO (G qk [.agg [.U bE (gR o9 1),iI (gI (gC o9 0) 1),.U cT (gR o9 2),.U dN (gR o9 3)],iI 370]) λ_ mW=>bif gB mW 0 then bO (G qk [.agg [.U bE (gR cr 1),iI (gI (gC cr 0) 1),.U cT (gR cr 2),.U dN (gR cr 3)],iI 370]) λ_ mV=>af [.bool (gB mV 0)]else cQ else cQ else cQ else cQ else cQ:aF):=by kernel_rfl
def Xb:HV G N (n+1) [.U ak r0,.U oM r1,iI i2,iI i3,.agg l4]=(bif aW i3 i2 then bI i3 r1<|bif cj (ln r0) (bo (gI (ba r1 i3) 0))then af [.bool false,gU l4]else bI (gI (ba r1 i3) 0) r0<|bif aW (gI (ba r0 (gI (ba r1 i3) 0)) 0) (gI l4 0)then af [.bool false,gU l4]else HV G N n [.U ak r0,.U oM r1,iI i2,cm i3,gU l4]else br [gU l4]:aF):=by kernel_rfl
def amQ:Oz G N [.U ak r0,.agg l1]=(bO (HV G N N [.U ak r0,.U oM (gR l1 4),iI (ln (gR l1 4)),iI 0,gU l1]) λq1 o1=>bif cH q1 then br [.bool (gB o1 0),gU (gC o1 1)]else af [gU (gC o1 0)]:aF):=by kernel_rfl
def anL:bC CX EE G N O0 [.agg l0,.U ak r1]=(bO (Oz G N [.U ak r1,gU l0]) λq2 o2=>bif cH q2 then bif cj 1 (gI (gC o2 0) 0)then bif cj (gI (gC o2 0) 0) 31 then bif cj 1 (gI (gC o2 0) 1)then bif cj (gI (gC o2 0) 1) 2147483647 then bif cj 0 (gI (gC o2 0) 2)then bif cj (gI (gC o2 0) 2) (gI (gC o2 0) 1)then bif cj 0 (gI (gC o2 0) 3)then bif cj (gI (gC o2 0) 3) 2147483647 then af [.bool (cj (ln (gR (gC o2 0) 4)) 10)]else cQ else cQ else cQ else cQ else cQ else cQ else cQ else cQ else af [.bool (gB o2 0)]:aF):=by kernel_rfl
def Xc:DK G N (n+1) [.U ak r0,iI i1,iI i2,.agg l3,.U bE r4,.U cT r5,.U dN r6]=(bif aW i2 i1 then bI i2 r0<|aB (jm ((r4.length+1)*56) 140737488355328)<|aB (jm ((r6.length+1)*56) 140737488355328)<|DK G N n [.U ak r0,iI i1,cm i2,.agg [.aa 1,iI (gI l3 1),.aa 2,.aa 3],.U bE (r4++(([TX]:aH))),.U cT r5,.U dN (r6++(([[iI (gI (ba r0 i2) 0),.U ak (([[iI i2]]:aH)),.U ax ([])]]:aH)))]else af [.agg [.aa 1,iI (gI l3 1),.aa 2,.aa 3],.U bE r4,.U cT r5,.U dN r6]:aF):=by kernel_rfl
def amk:Om G N [.U ak r0,.agg l1,.U bE r2,.U cT r3,.U dN r4]=(bO (DK G N N [.U ak r0,iI (ln r0),iI 0,.agg [.aa 1,iI (gI l1 1),.aa 2,.aa 3],.U bE r2,.U cT r3,.U dN r4]) λ_ o1=>af [.agg [.aa 1,iI (gI (gC o1 0) 1),.aa 2,.aa 3],.U bE (gR o1 1),.U cT (gR o1 2),.U dN (gR o1 3)]:aF):=by kernel_rfl
def WI:Dt G N (n+1) [.U oM r0,iI i1,iI i2,.U aZ r3]=(bif aW i2 i1 then bI i2 r0<|bO (G oK [iI 3]) λ_ o5=>bO (G sU [iI (bo (gI (ba r0 i2) 0)),bN (gC o5 0)]) λ_ o6=>aB (jm ((r3.length+1)*272) 140737488355328)<|Dt G N n [.U oM r0,iI i1,cm i2,.U aZ (r3++(([[.int .u8 20,iI 0,iI 0,iI 0,iI (bo (gI (ba r0 i2) 0)),iI 0,.bool false,.bool false,.bool false,.bool false,.bool false,.int .u8 0,.U ax ([]),.U ax ([]),.U aL ([]),.U aL ([]),.U ak bF,.U aZ (([sT (ab dw 0 (gC o6 0)) [(12,.U ax (gR o6 1)),(14,.U aL (gR o6 2))]]:aH)),.U bD ([]),.U bK ([]),.U bP ([])]]:aH)))]else af [.U aZ r3]:aF):=by kernel_rfl
def akf:NC G N [.agg l0,.U aZ r1]=(bO (Dt G N N [.U oM (gR l0 4),iI (ln (gR l0 4)),iI 0,.U aZ r1]) λ_ o7=>af [gU l0,.U aZ (gR o7 0)]:aF):=by kernel_rfl
def ake:NA G N [.agg l0,.U aZ r1]=(bif Int.tmod (gI l0 5) 2==1 then aB (aW 0 (ln r1))<|bO (G wg []) λ_ o9=>aB (cj 1 (ln r1)&&cj (ln r1) (ln r1)&&cj (ln r1) (ln r1))<|bO (G wu [.U aZ (r1.drop 1)]) λ_ cx=>bO (G v9 [bf (gC o9 0),bf (gC cx 0),.U ak bF]) λ_ cr=>af [gU l0,.U aZ (([ab dw 0 (gA r1 0),sT (ab dw 0 (gC cr 0)) [(17,.U aZ (gR cr 1))]]:aH))]else af [gU l0,.U aZ r1]:aF):=by kernel_rfl
def ajM:Np G N [iI i0,.agg l1,.agg l2]=(bif aW 1 (Int.tmod (gI l1 5) 4)then bO (G oK [iI (gI l1 1)]) λ_ dG=>bO (G yv [iI i0]) λ_ kR=>af [gU l1,.agg (sT (ab js 0 l2) [(8,.U ax (([ab js 0 (gC dG 0),ab js 0 (gC kR 0)]:aH)))])]else af [gU l1,bN l2]:aF):=by kernel_rfl
def WY:yh G N (n+1) [iI i0,.U fH r1,iI i2,iI i3,.agg l4,.U ak r5,.U bE r6,.U cT r7,.U dN r8]=(bif aW i3 i2 then bI i3 r1<|aB (jm ((r5.length+1)*8) 140737488355328)<|aB (jm ((r6.length+1)*56) 140737488355328)<|bO (G yv [iI (bo (i0+i3))]) λ_ o3=>bO (G oK [cm i3]) λ_ o4=>bO (NC G N [gU (ba r1 i3),.U aZ (([[.int .u8 15,iI 0,iI 0,iI 0,iI 0,iI 0,.bool false,.bool false,.bool true,.bool false,.bool false,.int .u8 0,.U ax (([ab js 0 (gC o3 0)]:aH)),.U ax ([]),.U aL ([]),.U aL ([]),.U ak bF,.U aZ ([]),.U bD ([]),.U bK ([]),.U bP ([])],[.int .u8 11,iI 0,iI 0,iI 0,iI 0,iI 0,.bool false,.bool false,.bool false,.bool false,.bool false,.int .u8 0,.U ax (([ab js 0 (gC o4 0)]:aH)),.U ax ([]),.U aL ([]),.U aL ([]),.U ak bF,.U aZ ([]),.U bD ([]),.U bK ([]),.U bP ([])]]:aH))]) λ_ o8=>bO (NA G N [gU (gC o8 0),.U aZ (gR o8 1)]) λ_ dV=>bO (G yv [iI (bo (i0+i3))]) λ_ gP=>bO (G oK [iI (gI (gC dV 0) 1)]) λ_ eX=>bO (Np G N [iI (bo (i0+i3)),gU (gC dV 0),.agg [.int .u8 5,.int .u8 1,iI 0,iI 0,iI 0,iI 0,iI 0,iI 0,.U ax (([ab js 0 (gC gP 0),ab js 0 (gC eX 0)]:aH))]]) λ_ dU=>bO (G sU [iI (bo (i0+i3)),.agg [.int .u8 9,.int .u8 0,iI 0,iI 0,iI 0,iI 0,iI 0,iI 2147483647,.U ax (([ab js 0 (gC dU 1)]:aH))]]) λ_ mW=>aB (jm (((gR dV 1).length +1)*272) 140737488355328)<|bO (G oK [iI 1]) λ_ mV=>bO (G wu [.U aZ ((gR dV 1)++(([sT (ab dw 0 (gC mW 0)) [(12,.U ax (gR mW 1)),(14,.U aL (gR mW 2))]]:aH)))]) λ_ Lr=>bO (G oK [iI (gI (gC dU 0) 3)]) λ_ Ue=>bO (G sU [iI (bo (i0+i3)),bN (gC Ue 0)]) λ_ Gl=>bO (G v9 [.agg (sT (ab dw 0 (gC Gl 0)) [(12,.U ax (gR Gl 1)),(14,.U aL (gR Gl 2))]),.agg [.int .u8 5,iI 0,iI 0,iI 0,iI 0,iI 0,.bool false,.bool false,.bool false,.bool false,.bool false,.int .u8 0,.U ax (([ab js 0 (gC mV 0)]:aH)),.U ax ([]),.U aL ([]),.U aL ([]),.U ak bF,.U aZ (([ab dw 0 (gC Lr 0)]:aH)),.U bD ([]),.U bK ([]),.U bP ([])],.U ak bF]) λ_ lQ=>bif aW 1 (Int.tmod (gI (gC dU 0) 5) 4)then bO (G oK [iI (gI (gC dU 0) 3)]) λ_ o24=>bO (G sU [iI (bo (i0+i3)),bN (gC o24 0)]) λ_ Ud=>bO (G wu [.U aZ (([sT (ab dw 0 (gC Ud 0)) [(12,.U ax (gR Ud 1)),(14,.U aL (gR Ud 2))],[.int .u8 5,iI 0,iI 0,iI 0,iI 0,iI 0,.bool false,.bool false,.bool false,.bool false,.bool false,.int .u8 0,.U ax (([ab js 0 (gC mV 0)]:aH)),.U ax ([]),.U aL ([]),.U aL ([]),.U ak bF,.U aZ (([ab dw 0 (gC Lr 0)]:aH)),.U bD ([]),.U bK ([]),.U bP ([])]]:aH))]) λ_ lP=>aB (jm ((r7.length+1)*312) 140737488355328)<|yh G N n [iI i0,.U fH r1,iI i2,cm i3,.agg [.aa 2,iI (gI l4 1),.aa 3,.aa 4],.U ak (r5++(([[cm i3]]:aH))),.U bE (r6++(([Ga]:aH))),.U cT (r7++(([[iI (gI (gC dU 0) 0),.U pD ([]),.int .u8 (gI (gC lP 0) 0),iI (gI (gC lP 0) 1),iI (gI (gC lP 0) 2),iI (gI (gC lP 0) 3),iI (gI (gC lP 0) 4),iI (gI (gC lP 0) 5),.bool (gB (gC lP 0) 6),.bool (gB (gC lP 0) 7),.bool (gB (gC lP 0) 8),.bool (gB (gC lP 0) 9),.bool (gB (gC lP 0) 10),.int .u8 (gI (gC lP 0) 11),.U ax (gR (gC lP 0) 12),.U ax (gR (gC lP 0) 13),.U aL (gR (gC lP 0) 14),.U aL (gR (gC lP 0) 15),.U ak (gR (gC lP 0) 16),.U aZ (gR (gC lP 0) 17),.U bD (gR (gC lP 0) 18),.U bK (gR (gC lP 0) 19),.U bP (gR (gC lP 0) 20),iI (gI (gC dU 0) 2)]]:aH))),.U dN r8]else aB (jm ((r7.length+1)*312) 140737488355328)<|yh G N n [iI i0,.U fH r1,iI i2,cm i3,.agg [.aa 2,iI (gI l4 1),.aa 3,.aa 4],.U ak (r5++(([[cm i3]]:aH))),.U bE (r6++(([Ga]:aH))),.U cT (r7++(([[iI (gI (gC dU 0) 0),.U pD ([]),.int .u8 (gI (gC lQ 0) 0),iI (gI (gC lQ 0) 1),iI (gI (gC lQ 0) 2),iI (gI (gC lQ 0) 3),iI (gI (gC lQ 0) 4),iI (gI (gC lQ 0) 5),.bool (gB (gC lQ 0) 6),.bool (gB (gC lQ 0) 7),.bool (gB (gC lQ 0) 8),.bool (gB (gC lQ 0) 9),.bool (gB (gC lQ 0) 10),.int .u8 (gI (gC lQ 0) 11),.U ax (gR (gC lQ 0) 12),.U ax (gR (gC lQ 0) 13),.U aL (gR (gC lQ 0) 14),.U aL (gR (gC lQ 0) 15),.U ak (gR (gC lQ 0) 16),.U aZ (gR lQ 1),.U bD (gR (gC lQ 0) 18),.U bK (gR (gC lQ 0) 19),.U bP (gR (gC lQ 0) 20),iI (gI (gC dU 0) 2)]]:aH))),.U dN r8]else af [.agg [.aa 2,iI (gI l4 1),.aa 3,.aa 4],.U ak r5,.U bE r6,.U cT r7,.U dN r8]:aF):=by kernel_rfl
def anN:bC CX EE G N O2 [.U fH r0,.U ak r1]=(bO (Om G N [.U ak r1,.agg [.aa 1,iI 4,.aa 2,.aa 3],.U bE bF,.U cT bF,.U dN bF]) λ_ o2=>bO (yh G N N [iI (ln r1),.U fH r0,iI (ln r0),iI 0,.agg [.aa 2,iI (gI (gC o2 0) 1),.aa 3,.aa 4],.U ak bF,.U bE (gR o2 1),.U cT (([sn]:aH)),.U dN (gR o2 3)]) λ_ xL=>bO (G wg []) λ_ o28=>bO (G wg []) λ_ o29=>bO (G v9 [bf (gC o28 0),bf (gC o29 0),.U ak (gR xL 1)]) λ_ o30=>aB (aW 0 (ln (gR xL 3)))<|aB (gH 0 ((gR xL 3).length))<|af [.agg [.aa 0,iI (gI (gC xL 0) 1),.aa 1,.aa 2],.U bE (gR xL 2),.U cT ((gR xL 3).set 0 (setAt (gA (gR xL 3) 0) 2 (sT (ab dw 0 (gC o30 0)) [(17,.U aZ (gR o30 1))]))),.U dN (gR xL 4)]:aF):=by kernel_rfl
def ajN:Nq G N [.U fH r0,.U ak r1]=(bif aW 6 (ln r0)then bO (G v8 []) λ_ o1=>br [.bool (gB o1 0)]else bif aW 8 (ln r1)then bO (G v8 []) λ_ o2=>br [.bool (gB o2 0)]else af []:aF):=by kernel_rfl
def Wr:Ht G N (n+1) [.U ak r0,iI i1,iI i2]=(bif aW i2 i1 then bI i2 r0<|bif aW (gI (ba r0 i2) 0) 0 then bO (G v8 []) λ_ o4=>af [.bool (gB o4 0)]else bif aW 31 (gI (ba r0 i2) 0)then bO (G v8 []) λ_ o5=>af [.bool (gB o5 0)]else Ht G N n [.U ak r0,iI i1,cm i2]else br []:aF):=by kernel_rfl
def ajh:Nc G N [.U ak r0]=(bO (Ht G N N [.U ak r0,iI (ln r0),iI 0]) λq6 o6=>bif cH q6 then br [.bool (gB o6 0)]else af []:aF):=by kernel_rfl
def Wg:Dm G N (n+1) [.U ak r0,.U fH r1,iI i2,iI i3,.U fH r4]=(bif aW i3 i2 then bI i3 r1<|bO (G O0 [gU (ba r1 i3),.U ak r0]) λ_ o8=>bif gB o8 0 then aB (jm ((r4.length+1)*64) 140737488355328)<|Dm G N n [.U ak r0,.U fH r1,iI i2,cm i3,.U fH (r4++(([ab Og 0 (ba r1 i3)]:aH)))]else Dm G N n [.U ak r0,.U fH r1,iI i2,cm i3,.U fH r4]else af [.U fH r4]:aF):=by kernel_rfl
def ajg:Nb G N [.U fH r0,.U ak r1,.U fH r2]=(bO (Dm G N N [.U ak r1,.U fH r0,iI (ln r0),iI 0,.U fH r2]) λ_ o9=>af [.U fH (gR o9 0)]:aF):=by kernel_rfl
def aiM:Wv G N [.U fH r0,iI i1,.U dY r2]=(bif i1 != 0 then br [.bool false,.U dY r2]else bif ln r2 != ln r0 then br [.bool false,.U dY r2]else af [.U dY r2]:aF):=by kernel_rfl
def ahE:MH G N [iI i0,.agg l1]=(bif i0==0 then af [iI (gI l1 1),gU l1]else af [iI i0,gU l1]:aF):=by kernel_rfl
end
noncomputable section
variable {G:Nat->aD->Option UO} {N n:Nat} {i0 i1 i2 i3:Int} {l1 l2 l3:aD} {r0 r1 r2 r3 r4:aH}
def ahD:MG G N [iI i0,iI i1,.agg l2,.agg l3]=(bif gI l3 0 != bo (i0+1)then br [.bool false,gU l2,fV l3]else bif gI l3 1 != gI l2 0 then br [.bool false,gU l2,fV l3]else bif gI l3 2 != gI l2 1 then br [.bool false,gU l2,fV l3]else bif gI l3 3 != i1 then br [.bool false,gU l2,fV l3]else bif gI l3 4 != gI l2 3 then br [.bool false,gU l2,fV l3]else bif gI l3 5 != 0 then br [.bool false,gU l2,fV l3]else af [gU l2,fV l3]:aF):=by kernel_rfl
def VT:Db G N (n+1) [iI i0,.U oM r1,iI i2,iI i3,.U az r4]=(bif aW i3 i2 then bI i3 r1<|bif bo (gI (ba r1 i3) 0)==i0 then aB (jm ((r4.length+1)*16) 140737488355328)<|af [.U az (r4++(([[iI i0,iI 0]]:aH)))]else Db G N n [iI i0,.U oM r1,iI i2,cm i3,.U az r4]else af [.U az r4]:aF):=by kernel_rfl
def V0:G9 G N (n+1) [iI i0,iI i1,.agg l2,.U az r3]=(bif aW i1 i0 then bO (Db G N N [iI i1,.U oM (gR l2 4),iI (ln (gR l2 4)),iI 0,.U az r3]) λ_ dU=>G9 G N n [iI i0,cm i1,gU l2,.U az (gR dU 0)]else af [gU l2,.U az r3]:aF):=by kernel_rfl
def aht:MC G N [.U ak r0,.agg l1,.U az r2]=(bO (G9 G N N [iI (ln r0),iI 0,gU l1,.U az r2]) λ_ mW=>af [gU (gC mW 0),.U az (gR mW 1)]:aF):=by kernel_rfl
def VY:Df G N (n+1) [iI i0,iI i1,.agg l2,.U az r3]=(bif aW i1 i0 then bI i1 r3<|aB (gH (i1.toNat) (r3.length))<|bI i1 (gR l2 6)<|bif !(((gI (ba r3 i1) 0)==(gI (ba (gR l2 6) i1) 0))&&(((gI (ba r3 i1) 1)==(gI (ba (gR l2 6) i1) 1))&&true))then af [.bool false,fV l2,.U az r3]else Df G N n [iI i0,cm i1,fV l2,.U az r3]else br [fV l2,.U az r3]:aF):=by kernel_rfl
def V7:Dl G N (n+1) [.U ak r0,.U fH r1,iI i2,iI i3,.U dY r4]=(bif aW i3 i2 then bI i3 r1<|bI i3 r4<|aB (gH (i3.toNat) (r4.length))<|bO (MH G N [iI (gI (ba r1 i3) 2),gU (ba r1 i3)]) λ_ dG=>bO (MG G N [iI i3,iI (gI dG 0),gU (gC dG 1),fV (ba r4 i3)]) λT8 kR=>bif cH T8 then bO (MC G N [.U ak r0,gU (gC kR 0),.U az bF]) λ_ mV=>bif ln (gR mV 1) != ln (gR (gC kR 1) 6)then af [.bool false,.U dY r4]else bO (Df G N N [iI (ln (gR mV 1)),iI 0,fV (gC kR 1),.U az (gR mV 1)]) λq20 Lr=>bif cH q20 then af [.bool (gB Lr 0),.U dY r4]else Dl G N n [.U ak r0,.U fH r1,iI i2,cm i3,.U dY r4]else af [.bool (gB kR 0),.U dY r4]else br [.U dY r4]:aF):=by kernel_rfl
def akE:bC CX EE G N NK [.U fH r0,.U ak r1]=(bO (Nq G N [.U fH r0,.U ak r1]) λq3 o3=>bif cH q3 then bO (Nc G N [.U ak r1]) λq7 o7=>bif cH q7 then bO (Nb G N [.U fH r0,.U ak r1,.U fH bF]) λ_ cx=>bif ln (gR cx 0)==0 then bO (G v8 []) λ_ cr=>af [.bool (gB cr 0)]else bO (G O2 [.U fH (gR cx 0),.U ak r1]) λ_ dV=>bO (G vX [.agg [.U bE (gR dV 1),iI (gI (gC dV 0) 1),.U cT (gR dV 2),.U dN (gR dV 3)]]) λ_ gP=>bO (Wv G N [.U fH (gR cx 0),iI (gI gP 0),.U dY (gR gP 1)]) λGj eX=>bif cH Gj then bO (Dl G N N [.U ak r1,.U fH (gR cx 0),iI (ln (gR cx 0)),iI 0,.U dY (gR eX 0)]) λq21 Ue=>bif cH q21 then af [.bool (gB Ue 0)]else bO (G v8 []) λ_ Gl=>af [.bool (gB Gl 0)]else af [.bool (gB eX 0)]else af [.bool (gB o7 0)]else af [.bool (gB o3 0)]:aF):=by kernel_rfl
end
end Go.Proofs.YtffabbjfdgmbjaaGreat
namespace Go.ae
def eC{p:Prop}(h:p:=by simp only [c7];omega):p:=h
def BH{p:Prop}(h:p:=by simp only [c7]at hb⊢;omega):p:=h
def wN{p:Prop}(h:p:=by rw [QI];rfl):p:=h
def abh{p:Prop}(h:p:=by rw [kG hi];simp only [iJ,aaR,pG]):p:=h
def abg{p:Prop}(h:p:=by rw [kG hi];simp only [cR,Q6,pG]):p:=h
def aaU{p:Prop}(h:p:=by rw [kG hi];simp only [iU,aaQ]):p:=h
end Go.ae
namespace Go.ae
def nW:=@List.drop_length
end Go.ae
namespace Go.Proofs.YtffabbjfdgmbjaaGreat
open Go Go.ae
mutual
def aE:CS->Nat
 | .mk _ l d h a=>1+(cR d+(cc l+(iU h+iJ a)))
def cc:List CS->Nat
 | []=>0
 |s::ss=>aE s+cc ss
def Lt:CD->Nat
 | .mk d u=>aE d+aE u
def cR:List CD->Nat
 | []=>0
 |s::ss=>Lt s+cR ss
def Uh:CH->Nat
 | .mk _ b=>aE b
def iU:List CH->Nat
 | []=>0
 |s::ss=>Uh s+iU ss
def Ui:CA->Nat
 | .mk _ _ _ _ b a=>aE b+aE a
def iJ:List CA->Nat
 | []=>0
 |s::ss=>Ui s+iJ ss
end
def Bj(s:CS):aE s=1+(cR s.D+(cc s.L+(iU s.H+iJ s.A))):=by cases s;simp only [aE,CS.D,CS.L,CS.H,CS.A]
def Q6(s:CD):Lt s=aE s.d+aE s.u:=by cases s;simp only [Lt,CD.d,CD.u]
def aaQ(s:CH):Uh s=aE s.body:=by cases s;simp only [Uh,CH.body]
def aaR(s:CA):Ui s=aE s.body+aE s.after:=by cases s;simp only [Ui,CA.body,CA.after]
def n7(s:CS):1<=aE s:=by rw [Bj];omega
def Zn(a b:List CS):cc (a++b)=cc a+cc b:=by
 induction a with
 |nil=>simp [cc]
 |cons x a ih=>simp only [iR,cc,ih];omega
def A5(l:List CS):l.length<=cc l:=by
 induction l with
 |nil=>simp
 |cons x a ih=>have:=n7 x;simp only [gE,cc];omega
def dK(D:List CD):List CS:=D.flatMap λd=>[d.d,d.u]
def aK(A:List CA):List CS:=A.flatMap λa=>[a.body,a.after]
def R3(D:List CD):cc (dK D)=cR D:=by
 induction D with
 |nil=>rfl
 |cons d D ih=>simp only [dK,kZ,iR,jR,cc,cR,Q6]at ih⊢;omega
def asJ(D:List CA):cc (aK D)=iJ D:=by
 induction D with
 |nil=>rfl
 |cons d D ih=>simp only [aK,kZ,iR,jR,cc,iJ,aaR]at ih⊢;omega
def Tj(D:List CH):cc (D.map CH.body)=iU D:=by
 induction D with
 |nil=>rfl
 |cons d D ih=>simp only [fW,cc,iU,aaQ]at ih⊢;omega
def Ee(s:CS):aE s=1+cc s.kids:=by
 rw [Bj];simp only [CS.kids,Zn,Tj];have a:=R3 s.D;have b:=asJ s.A;simp only [dK,aK]at a b;rw [a,b]
abbrev c7:Nat:=100000000
def aqp{l:List CS}{s:CS}(h:s∈l):aE s<=cc l:=by
 induction l with
 |nil=>cases h
 |cons x l ih=>
  simp only [cc];rcases dA.1 h with rfl|h
  ·omega
  ·have:=ih h;omega
def yD{a b:Nat}(h:a+b<=2*c7):bo ((a:Int)+(b:Int))=((a+b:Nat):Int):=by
 simp only [c7]at h;exact BI
abbrev aS(s:CS):AV:= .agg (aX s)
def ayb(s:CS):Ev Ov [aS s] (0,[aS s]):=bu amV (ah (by rw [iT]))
def aaO:∀s:CS,s.Ok->aE s<=c7->Ev qT [aS s] (0,[iI (aE s:Int)]):=by
 refine CS.ind λs ih aQ hb=> ?_;cases aQ with|mk _ hf hL hD hH hA h1 h2 hk=>
 rw [Bj]at hb;have kD:=gy (m:=s.D.length) (P:=λi=>∀c:Nat,c+cR (s.D.drop i)<=c7->E (λN m=>Hl (FU CX EE N) N m [.U bD (s.D.map ed),iI (ln (s.D.map ed)),iI (i:Int),.agg [.ptr 1 0 0],.agg [iI (c:Int)]]) (0,[.agg [.ptr 1 0 0],.agg [iI ((c+cR (s.D.drop i):Nat):Int)]]))
  (λc _=>by
    rw [nW];exact bx Wl (aC eJ (ah rfl)))
  λi hi fm c gw=>by
   have hm:=eH hi;have gd:ab dw 0 (gA (s.D.map ed) ((i:Int).toNat))=aX s.D[i].d :=by rw [eT hi,SV]
   have gu:ab dw 21 (gA (s.D.map ed) ((i:Int).toNat))=aX s.D[i].u :=by rw [eT hi,SU]
   have e:cR (s.D.drop i)=aE s.D[i].d +(aE s.D[i].u +cR (s.D.drop (i+1))):=abg;rw [e]at gw⊢;simp only [c7]at gw;have j1:=ih s.D[i].d (B5 hm).1 (hk _ (B5 hm).1) (eC);have j2:=ih s.D[i].u (B5 hm).2 (hk _ (B5 hm).2) (eC);refine bx Wl (bj (ew hi) (aV (ey hi) ?_));rw [gd,gu,ix hi hD];refine ao j1 (ao j2 ?_);have:=fm ((c+aE s.D[i].d)+aE s.D[i].u) (eC);rw [show c+aE s.D[i].d +aE s.D[i].u +cR (s.D.drop (i+1))=c+(aE s.D[i].d +(aE s.D[i].u +cR (s.D.drop (i+1))))by omega]at this;rw [<-yD (a:=c+aE s.D[i].d) (b:=aE s.D[i].u) (eC),<-yD (a:=c) (b:=aE s.D[i].d) (eC)]at this;exact this
 have kL:=gy (m:=s.L.length) (P:=λi=>∀c:Nat,c+cc (s.L.drop i)<=c7->E (λN m=>Hk (FU CX EE N) N m [.U aZ (s.L.map aX),iI (ln (s.L.map aX)),iI (i:Int),.agg [.ptr 1 0 0],.agg [iI (c:Int)]]) (0,[.agg [.ptr 1 0 0],.agg [iI ((c+cc (s.L.drop i):Nat):Int)]]))
  (λc _=>by
    rw [nW];exact bx Wk (aC eJ (ah rfl)))
  λi hi fm c gw=>by
   have hm:=eH hi;have gd:ab dw 0 (gA (s.L.map aX) ((i:Int).toNat))=aX s.L[i]:=by rw [eT hi,iT]
   have e:cc (s.L.drop i)=aE s.L[i]+cc (s.L.drop (i+1)):=by rw [kG hi];simp only [cc]
   rw [e]at gw⊢;simp only [c7]at gw;have j1:=ih s.L[i] (KP hm) (hk _ (KP hm)) (eC);refine bx Wk (bj (ew hi) (aV (ey hi) ?_));rw [gd,ix hi hL];refine ao j1 ?_;have:=fm (c+aE s.L[i]) (eC);rw [pG]at this;rw [<-yD (a:=c) (b:=aE s.L[i]) (eC)]at this;exact this
 have kH:=gy (m:=s.H.length) (P:=λi=>∀c:Nat,c+iU (s.H.drop i)<=c7->E (λN m=>Dq (FU CX EE N) N m [.U bK (s.H.map mR),iI (ln (s.H.map mR)),iI (i:Int),.agg [.ptr 1 0 0],.agg [iI (c:Int)]]) (0,[.agg [.ptr 1 0 0],.agg [iI ((c+iU (s.H.drop i):Nat):Int)]]))
  (λc _=>by
    rw [nW];exact bx Wj (aC eJ (ah rfl)))
  λi hi fm c gw=>by
   have hm:=eH hi;have gd:ab dw 1 (gA (s.H.map mR) ((i:Int).toNat))=aX s.H[i].body :=by rw [eT hi,aev]
   have e:iU (s.H.drop i)=aE s.H[i].body +iU (s.H.drop (i+1)):=aaU;rw [e]at gw⊢;simp only [c7]at gw;have j1:=ih s.H[i].body (Tl hm) (hk _ (Tl hm)) (eC);refine bx Wj (bj (ew hi) (aV (ey hi) ?_));rw [gd,ix hi hH];refine ao j1 ?_;have:=fm (c+aE s.H[i].body) (eC);rw [pG]at this;rw [<-yD (a:=c) (b:=aE s.H[i].body) (eC)]at this;exact this
 have kA:=gy (m:=s.A.length) (P:=λi=>∀c:Nat,c+iJ (s.A.drop i)<=c7->E (λN m=>Dp (FU CX EE N) N m [.U bP (s.A.map mh),iI (ln (s.A.map mh)),iI (i:Int),.agg [.ptr 1 0 0],.agg [iI (c:Int)]]) (0,[.agg [.ptr 1 0 0],.agg [iI ((c+iJ (s.A.drop i):Nat):Int)]]))
  (λc _=>by
    rw [nW];exact bx Wi (aC eJ (ah rfl)))
  λi hi fm c gw=>by
   have hm:=eH hi;have gd:ab dw 12 (gA (s.A.map mh) ((i:Int).toNat))=aX s.A[i].body :=by rw [eT hi,aew]
   have gu:ab dw 33 (gA (s.A.map mh) ((i:Int).toNat))=aX s.A[i].after :=by rw [eT hi,aex]
   have e:iJ (s.A.drop i)=aE s.A[i].body +(aE s.A[i].after +iJ (s.A.drop (i+1))):=abh;rw [e]at gw⊢;simp only [c7]at gw;have j1:=ih s.A[i].body (B6 hm).1 (hk _ (B6 hm).1) (eC);have j2:=ih s.A[i].after (B6 hm).2 (hk _ (B6 hm).2) (eC);refine bx Wi (bj (ew hi) (aV (ey hi) ?_));rw [gd,gu,ix hi hA];refine ao j1 (ao j2 ?_);have:=fm ((c+aE s.A[i].body)+aE s.A[i].after) (eC);rw [show c+aE s.A[i].body +aE s.A[i].after +iJ (s.A.drop (i+1))=c+(aE s.A[i].body +(aE s.A[i].after +iJ (s.A.drop (i+1))))by omega]at this;rw [<-yD (a:=c+aE s.A[i].body) (b:=aE s.A[i].after) (eC),<-yD (a:=c) (b:=aE s.A[i].body) (eC)]at this;exact this
 simp only [uB]at kD kL kH kA;have g18:gR (aX s) 18=s.D.map ed:=wN;have g17:gR (aX s) 17=s.L.map aX:=wN;have g19:gR (aX s) 19=s.H.map mR:=wN;have g20:gR (aX s) 20=s.A.map mh:=wN;have jD:E (λN _=>Nk (FU CX EE N) N [.agg [.ptr 2 0 0],aS s,.agg [iI 1]]) (0,[.agg [.ptr 2 0 0],aS s,.agg [iI ((1+cR s.D:Nat):Int)]]):=by
  refine cP ajo ?_;rw [g18,iT];exact ao (kD 1 (BH)).diag (ah rfl)
 have jL:E (λN _=>Nj (FU CX EE N) N [.agg [.ptr 2 0 0],aS s,.agg [iI ((1+cR s.D:Nat):Int)]]) (0,[.agg [.ptr 2 0 0],aS s,.agg [iI ((1+cR s.D+cc s.L:Nat):Int)]]):=by
  refine cP ajn ?_;rw [g17,iT];exact ao (kL _ (BH)).diag (ah rfl)
 refine bu ank ?_;rw [iT];refine ao (ayb s) ?_;erw [iT];refine ao jD ?_;erw [iT];refine ao jL ?_;show E (λN n=>bO (Dq (FU CX EE N) N N [.U bK (gR (aX s) 19),iI (ln (gR (aX s) 19)),iI 0,.agg [.ptr 1 0 0],.agg [iI ((1+cR s.D+cc s.L:Nat):Int)]]) λ_ cx=>bO (Dp (FU CX EE N) N N [.U bP (gR (aX s) 20),iI (ln (gR (aX s) 20)),iI 0,.agg [.ptr 1 0 0],.agg [iI (gI (gC cx 1) 0)]]) λ_ gP=>some (0,[iI (gI (gC gP 1) 0)])) _;rw [g19,g20];refine ao (kH _ (BH)).diag (ao (kA _ (BH)).diag (ah ?_));show(0,[iI ((1+cR s.D+cc s.L+iU s.H+iJ s.A:Nat):Int)])=_;rw [Bj]
 congr 4
 omega
end Go.Proofs.YtffabbjfdgmbjaaGreat
namespace Go.ae
def pS{p:Prop}(h:p:=by obtain⟨s,n⟩:=x;cases s;rfl):p:=h
def BM{p:Prop}(h:p:=by simp only [c7,fC,gE,lz];omega):p:=h
def rh{p:Prop}(h:p:=by rw [Qa];rfl):p:=h
def Jv{p:Prop}(h:p:=by
 have h0:=k;simp only [uB]at h0;exact h0):p:=h
def ER{p:Prop}(h:p:=by rw [kG hi];rfl):p:=h
end Go.ae
namespace Go.Proofs.YtffabbjfdgmbjaaGreat
open Go Go.ae
section
abbrev NB:=CS×Nat
variable{x:NB}
def bw(x:NB):Row:=aX x.1++[iI (x.2:Int)]
abbrev lN(l:List NB):AV:= .U bz (l.map bw)
abbrev aN(x:NB):AV:= .agg (bw x)
def cu:Nat->List CS->List NB
 |_,[]=>[]
 |n,s::ss=>(s,n)::cu (n+aE s) ss
def cg(x:NB):List NB:=cu (x.2+1) x.1.kids
def Ec(a b:List CS)(n:Nat):cu n (a++b)=cu n a++cu (n+cc a) b:=by
 induction a generalizing n with
 |nil=>simp [cu,cc]
 |cons x a ih=>simp only [iR,cu,ih,cc,pG]
def Iy(a:List CS)(n:Nat):(cu n a).length =a.length:=by
 induction a generalizing n with
 |nil=>rfl
 |cons x a ih=>simp only [cu,gE,ih]
def apo{a:List CS}{n:Nat}(h:x∈cu n a):x.1∈a:=by
 induction a generalizing n with
 |nil=>simp [cu]at h
 |cons y a ih=>
  simp only [cu,dA]at h;rcases h with rfl|h
  ·simp
  ·exact eQ _ (ih h)
def ma(x:NB):ab pB 0 (bw x)=bw x:=pS
def aeu(x:NB):ab dw 0 (bw x)=aX x.1:=pS
def ayJ(x:NB):gI (bw x) 21=(x.2:Int):=pS
def Qa(x:NB):bw x=oq x.1.f (x.1.L.map aX) (x.1.D.map ed) (x.1.H.map mR) (x.1.A.map mh)++[iI (x.2:Int)]:=by unfold bw;rw [QI]
def ad6(x:NB):gR (bw x) 17=x.1.L.map aX:=rh
def atb(x:NB):gR (bw x) 18=x.1.D.map ed:=rh
def ata(x:NB):gR (bw x) 19=x.1.H.map mR:=rh
def as9(x:NB):gR (bw x) 20=x.1.A.map mh:=rh
def Ce{s:CS}{acc:List NB}{c:Nat}{l1:aD}(aQ:s.Ok)(h1:acc.length<=2*c7)(h2:aE s<=c7)(h3:c+aE s<=2*c7):
 Ev vW [aS s,.agg l1,.agg [iI (c:Int)],lN acc] (0,[.agg [.aa 3],.agg [iI ((c+aE s:Nat):Int)],lN (acc++[(s,c)])]):=by
 refine bu ahG (aV (by rw [fI];simp [c7]at h1⊢;omega) ?_);rw [iT];refine ao (aaO s aQ h2) (ah ?_);show((0,[.agg [.aa 3],.agg [iI (bo ((c:Int)+(aE s:Int)))],.U bz (acc.map bw++[sT (ab pB 0 (aX s)) [(21,iI (c:Int))]])]):UO)=_;rw [yD h3,show sT (ab pB 0 (aX s)) [(21,iI (c:Int))]=bw (s,c)by cases s;rfl];simp only [lN,lX,fW,wy]
def inD{l:List CD}(hl:l.length<=mx)(aQ:∀x∈l,x.d.Ok∧x.u.Ok):∀(acc:List NB) (c:Nat),acc.length+cR l<=2*c7->c+cR l<=2*c7->cR l<=c7->E (λN m=>De (FU CX EE N) N m [.U bD (l.map ed),iI (ln (l.map ed)),iI 0,.agg [.aa 2],.agg [iI (c:Int)],lN acc]) (0,[.agg [.aa 2],.agg [iI ((c+cR l:Nat):Int)],lN (acc++cu c (dK l))]):=by
 have k:=gy (m:=l.length) (P:=λi=>∀(acc:List NB) (c:Nat),acc.length+cR (l.drop i)<=2*c7->c+cR (l.drop i)<=2*c7->cR (l.drop i)<=c7->E (λN m=>De (FU CX EE N) N m [.U bD (l.map ed),iI (ln (l.map ed)),iI (i:Int),.agg [.aa 2],.agg [iI (c:Int)],lN acc]) (0,[.agg [.aa 2],.agg [iI ((c+cR (l.drop i):Nat):Int)],lN (acc++cu c (dK (l.drop i)))]))
  (λacc c _ _ _=>by
    rw [nW];exact bx VX (aC eJ (ah (by simp [cR,cu,dK]<;>rfl))))
  λi hi fm acc c b1 b2 b3=>by
   have hm:=eH hi;have gd:ab dw 0 (gA (l.map ed) ((i:Int).toNat))=aX l[i].d :=by rw [eT hi,SV]
   have gu:ab dw 21 (gA (l.map ed) ((i:Int).toNat))=aX l[i].u :=by rw [eT hi,SU]
   have e:cR (l.drop i)=aE l[i].d +(aE l[i].u +cR (l.drop (i+1))):=abg;have e2:cu c (dK (l.drop i))=(l[i].d,c)::(l[i].u,c+aE l[i].d)::cu (c+aE l[i].d +aE l[i].u) (dK (l.drop (i+1))):=ER;have:=n7 l[i].d;have:=n7 l[i].u;rw [e]at b1 b2 b3;rw [e,e2];simp only [c7]at b1 b2 b3;have j1:=Ce (l1:=[.aa 2]) (s:=l[i].d) (acc:=acc) (c:=c) (aQ _ hm).1 (eC) (eC) (eC);have j2:=Ce (l1:=[.aa 2]) (s:=l[i].u) (acc:=acc++[(l[i].d,c)]) (c:=c+aE l[i].d) (aQ _ hm).2 (BM) (eC) (eC);refine bx VX (bj (ew hi) (aV (ey hi) ?_));rw [gd,gu,ix hi hl];refine ao j1 (ao j2 ?_);have:=fm ((acc++[(l[i].d,c)])++[(l[i].u,c+aE l[i].d)]) (c+aE l[i].d +aE l[i].u) (BM) (eC) (eC);rw [show c+aE l[i].d +aE l[i].u +cR (l.drop (i+1))=c+(aE l[i].d +(aE l[i].u +cR (l.drop (i+1))))by omega,show∀(a b:NB) (r:List NB),acc++[a]++[b]++r=acc++a::b::r from λa b r=>by simp]at this;exact this
 exact Jv
def inL{l:List CS}(hl:l.length<=mx)(aQ:∀x∈l,x.Ok):∀(acc:List NB) (c:Nat),acc.length+cc l<=2*c7->c+cc l<=2*c7->cc l<=c7->E (λN m=>Dd (FU CX EE N) N m [.U aZ (l.map aX),iI (ln (l.map aX)),iI 0,.agg [.aa 2],.agg [iI (c:Int)],lN acc]) (0,[.agg [.aa 2],.agg [iI ((c+cc l:Nat):Int)],lN (acc++cu c (l))]):=by
 have k:=gy (m:=l.length) (P:=λi=>∀(acc:List NB) (c:Nat),acc.length+cc (l.drop i)<=2*c7->c+cc (l.drop i)<=2*c7->cc (l.drop i)<=c7->E (λN m=>Dd (FU CX EE N) N m [.U aZ (l.map aX),iI (ln (l.map aX)),iI (i:Int),.agg [.aa 2],.agg [iI (c:Int)],lN acc]) (0,[.agg [.aa 2],.agg [iI ((c+cc (l.drop i):Nat):Int)],lN (acc++cu c ((l.drop i)))]))
  (λacc c _ _ _=>by
    rw [nW];exact bx VW (aC eJ (ah (by simp [cc,cu]<;>rfl))))
  λi hi fm acc c b1 b2 b3=>by
   have hm:=eH hi;have gd:ab dw 0 (gA (l.map aX) ((i:Int).toNat))=aX l[i]:=by rw [eT hi,iT]
   have e:cc (l.drop i)=aE l[i]+cc (l.drop (i+1)):=by rw [kG hi];simp only [cc]
   have e2:cu c ((l.drop i))=(l[i],c)::cu (c+aE l[i]) ((l.drop (i+1))):=ER;have:=n7 l[i];rw [e]at b1 b2 b3;rw [e,e2];simp only [c7]at b1 b2 b3;have j1:=Ce (l1:=[.aa 2]) (s:=l[i]) (acc:=acc) (c:=c) (aQ _ hm) (eC) (eC) (eC);refine bx VW (bj (ew hi) (aV (ey hi) ?_));rw [gd,ix hi hl];refine ao j1 ?_;have:=fm (acc++[(l[i],c)]) (c+aE l[i]) (BM) (eC) (eC);rw [pG,mu]at this;exact this
 exact Jv
def inH{l:List CH}(hl:l.length<=mx)(aQ:∀x∈l,x.body.Ok):∀(acc:List NB) (c:Nat),acc.length+iU l<=2*c7->c+iU l<=2*c7->iU l<=c7->E (λN m=>Aq (FU CX EE N) N m [.U bK (l.map mR),iI (ln (l.map mR)),iI 0,.agg [.aa 2],.agg [iI (c:Int)],lN acc]) (0,[.agg [.aa 2],.agg [iI ((c+iU l:Nat):Int)],lN (acc++cu c (l.map CH.body))]):=by
 have k:=gy (m:=l.length) (P:=λi=>∀(acc:List NB) (c:Nat),acc.length+iU (l.drop i)<=2*c7->c+iU (l.drop i)<=2*c7->iU (l.drop i)<=c7->E (λN m=>Aq (FU CX EE N) N m [.U bK (l.map mR),iI (ln (l.map mR)),iI (i:Int),.agg [.aa 2],.agg [iI (c:Int)],lN acc]) (0,[.agg [.aa 2],.agg [iI ((c+iU (l.drop i):Nat):Int)],lN (acc++cu c ((l.drop i).map CH.body))]))
  (λacc c _ _ _=>by
    rw [nW];exact bx VV (aC eJ (ah (by simp [iU,cu]<;>rfl))))
  λi hi fm acc c b1 b2 b3=>by
   have hm:=eH hi;have gd:ab dw 1 (gA (l.map mR) ((i:Int).toNat))=aX l[i].body :=by rw [eT hi,aev]
   have e:iU (l.drop i)=aE l[i].body +iU (l.drop (i+1)):=aaU;have e2:cu c ((l.drop i).map CH.body)=(l[i].body,c)::cu (c+aE l[i].body) ((l.drop (i+1)).map CH.body):=ER;have:=n7 l[i].body;rw [e]at b1 b2 b3;rw [e,e2];simp only [c7]at b1 b2 b3;have j1:=Ce (l1:=[.aa 2]) (s:=l[i].body) (acc:=acc) (c:=c) (aQ _ hm) (eC) (eC) (eC);refine bx VV (bj (ew hi) (aV (ey hi) ?_));rw [gd,ix hi hl];refine ao j1 ?_;have:=fm (acc++[(l[i].body,c)]) (c+aE l[i].body) (BM) (eC) (eC);rw [pG,mu]at this;exact this
 exact Jv
def inA{l:List CA}(hl:l.length<=mx)(aQ:∀x∈l,x.body.Ok∧x.after.Ok):∀(acc:List NB) (c:Nat),acc.length+iJ l<=2*c7->c+iJ l<=2*c7->iJ l<=c7->E (λN m=>Ap (FU CX EE N) N m [.U bP (l.map mh),iI (ln (l.map mh)),iI 0,.agg [.aa 2],.agg [iI (c:Int)],lN acc]) (0,[.agg [.aa 2],.agg [iI ((c+iJ l:Nat):Int)],lN (acc++cu c (aK l))]):=by
 have k:=gy (m:=l.length) (P:=λi=>∀(acc:List NB) (c:Nat),acc.length+iJ (l.drop i)<=2*c7->c+iJ (l.drop i)<=2*c7->iJ (l.drop i)<=c7->E (λN m=>Ap (FU CX EE N) N m [.U bP (l.map mh),iI (ln (l.map mh)),iI (i:Int),.agg [.aa 2],.agg [iI (c:Int)],lN acc]) (0,[.agg [.aa 2],.agg [iI ((c+iJ (l.drop i):Nat):Int)],lN (acc++cu c (aK (l.drop i)))]))
  (λacc c _ _ _=>by
    rw [nW];exact bx VU (aC eJ (ah (by simp [iJ,cu,aK]<;>rfl))))
  λi hi fm acc c b1 b2 b3=>by
   have hm:=eH hi;have gd:ab dw 12 (gA (l.map mh) ((i:Int).toNat))=aX l[i].body :=by rw [eT hi,aew]
   have gu:ab dw 33 (gA (l.map mh) ((i:Int).toNat))=aX l[i].after :=by rw [eT hi,aex]
   have e:iJ (l.drop i)=aE l[i].body +(aE l[i].after +iJ (l.drop (i+1))):=abh;have e2:cu c (aK (l.drop i))=(l[i].body,c)::(l[i].after,c+aE l[i].body)::cu (c+aE l[i].body +aE l[i].after) (aK (l.drop (i+1))):=ER;have:=n7 l[i].body;have:=n7 l[i].after;rw [e]at b1 b2 b3;rw [e,e2];simp only [c7]at b1 b2 b3;have j1:=Ce (l1:=[.aa 2]) (s:=l[i].body) (acc:=acc) (c:=c) (aQ _ hm).1 (eC) (eC) (eC);have j2:=Ce (l1:=[.aa 2]) (s:=l[i].after) (acc:=acc++[(l[i].body,c)]) (c:=c+aE l[i].body) (aQ _ hm).2 (BM) (eC) (eC);refine bx VU (bj (ew hi) (aV (ey hi) ?_));rw [gd,gu,ix hi hl];refine ao j1 (ao j2 ?_);have:=fm ((acc++[(l[i].body,c)])++[(l[i].after,c+aE l[i].body)]) (c+aE l[i].body +aE l[i].after) (BM) (eC) (eC);rw [show c+aE l[i].body +aE l[i].after +iJ (l.drop (i+1))=c+(aE l[i].body +(aE l[i].after +iJ (l.drop (i+1))))by omega,show∀(a b:NB) (r:List NB),acc++[a]++[b]++r=acc++a::b::r from λa b r=>by simp]at this;exact this
 exact Jv
def Se(s:CS):s.kids=dK s.D++(s.L++(s.H.map CH.body++aK s.A)):=rfl
def adY(aQ:x.1.Ok)(h1:aE x.1<=c7)(h2:x.2+aE x.1<=2*c7):Ev ug [aN x] (0,[lN (cg x)]):=by
 have hb:=h2;rw [Bj]at h1 h2;simp only [c7]at h1 h2;obtain⟨hL,hD,hH,hA,hk⟩:x.1.L.length<=mx∧x.1.D.length<=mx∧x.1.H.length<=mx∧x.1.A.length<=mx∧∀y∈x.1.kids,CS.Ok y:=by
  cases aQ with|mk _ hf hL hD hH hA _ _ hk=>exact⟨hL,hD,hH,hA,hk⟩
 have kD:=inD hD (λd hd=>⟨hk _ (B5 hd).1,hk _ (B5 hd).2⟩) [] (x.2+1) (by simp only [c7,lz];omega) (eC) (eC);rw [jR]at kD;have ld:(cu (x.2+1) (dK x.1.D)).length <=cR x.1.D:=by rw [Iy,<-R3];exact A5 _
 have kL:=inL hL (λd hd=>hk _ (KP hd)) (cu (x.2+1) (dK x.1.D)) (x.2+1+cR x.1.D) (eC) (eC) (eC);have ll:(cu (x.2+1) (dK x.1.D)++cu (x.2+1+cR x.1.D) x.1.L).length <=cR x.1.D+cc x.1.L:=by
  rw [fC,Iy x.1.L];have:=A5 x.1.L;omega
 have kH:=inH hH (λd hd=>hk _ (Tl hd)) (cu (x.2+1) (dK x.1.D)++cu (x.2+1+cR x.1.D) x.1.L) (x.2+1+cR x.1.D+cc x.1.L) (eC) (eC) (eC);have lh:(cu (x.2+1) (dK x.1.D)++cu (x.2+1+cR x.1.D) x.1.L++cu (x.2+1+cR x.1.D+cc x.1.L) (x.1.H.map CH.body)).length <=cR x.1.D+cc x.1.L+iU x.1.H:=by
  rw [fC,Iy (x.1.H.map CH.body)];have:=A5 (x.1.H.map CH.body);rw [Tj]at this;omega
 have kA:=inA hA (λd hd=>⟨hk _ (B6 hd).1,hk _ (B6 hd).2⟩) (cu (x.2+1) (dK x.1.D)++cu (x.2+1+cR x.1.D) x.1.L++cu (x.2+1+cR x.1.D+cc x.1.L) (x.1.H.map CH.body)) (x.2+1+cR x.1.D+cc x.1.L+iU x.1.H) (eC) (eC) (eC);have e:cg x=cu (x.2+1) (dK x.1.D)++cu (x.2+1+cR x.1.D) x.1.L++cu (x.2+1+cR x.1.D+cc x.1.L) (x.1.H.map CH.body)++cu (x.2+1+cR x.1.D+cc x.1.L+iU x.1.H) (aK x.1.A):=by
  unfold cg;rw [Se,Ec,Ec,Ec,R3,Tj];simp only [mu]
 rw [<-e]at kA;have jD:E (λN _=>MB (FU CX EE N) N [aN x,.agg [.aa 3],.agg [iI ((x.2+1:Nat):Int)],lN []]) (0,[aN x,.agg [.aa 3],.agg [iI ((x.2+1+cR x.1.D:Nat):Int)],lN (cu (x.2+1) (dK x.1.D))]):=by
  refine cP ahs ?_;rw [atb,ma];exact ao kD.diag (ah rfl)
 have jL:E (λN _=>MA (FU CX EE N) N [aN x,.agg [.aa 3],.agg [iI ((x.2+1+cR x.1.D:Nat):Int)],lN (cu (x.2+1) (dK x.1.D))]) (0,[aN x,.agg [.aa 3],.agg [iI ((x.2+1+cR x.1.D+cc x.1.L:Nat):Int)],lN (cu (x.2+1) (dK x.1.D)++cu (x.2+1+cR x.1.D) x.1.L)]):=by
  refine cP ahr ?_;rw [ad6,ma];exact ao kL.diag (ah rfl)
 refine bu aib ?_;rw [ma,ayJ,show bo ((x.2:Int)+1)=((x.2+1:Nat):Int)by rw [pI (by omega) (by omega)];omega];refine ao jD ?_;erw [ma];refine ao jL ?_;show E (λN n=>bO (Aq (FU CX EE N) N N [.U bK (gR (bw x) 19),iI (ln (gR (bw x) 19)),iI 0,.agg [.aa 2],.agg [iI ((x.2+1+cR x.1.D+cc x.1.L:Nat):Int)],lN (cu (x.2+1) (dK x.1.D)++cu (x.2+1+cR x.1.D) x.1.L)]) λ_ o9=>bO (Ap (FU CX EE N) N N [.U bP (gR (bw x) 20),iI (ln (gR (bw x) 20)),iI 0,.agg [.aa 2],.agg [iI (gI (gC o9 1) 0)],.U bz (gR o9 2)]) λ_ dV=>some (0,[.U bz (gR dV 2)])) _;rw [ata,as9];exact ao kH.diag (ao kA.diag (ah rfl))
end
end Go.Proofs.YtffabbjfdgmbjaaGreat
namespace Go.ae
def pR{p:Prop}(h:p:=by exact aC rfl (ah rfl)):p:=h
def Jq{p:Prop}(h:p:=by exact aJ (λh=>ah (q1 h)) q2):p:=h
def Jm{p:Prop}(h:p:=by cases h;assumption):p:=h
def Q9{p:Prop}(h:p:=by rw [h,h2,h3,h4];rfl):p:=h
end Go.ae
namespace Go.ae
def IM:=@List.all_append
def IL:=@Bool.and_true
def Ei:=@Bool.and_assoc
end Go.ae
namespace Go.Proofs.YtffabbjfdgmbjaaGreat
open Go Go.ae
section
variable{s:CS}{l:List NB}{y:NB}{i:Nat}{α:Type}
def Kd{l:List α}{p:α->Bool}{LF IX CT:Nat->Nat->Option UO}{st:aD}
 (h:(l.any p=false∧E LF (1,st))∨(l.any p=true∧∃i:Nat,i<l.length∧E LF (0,iI (i:Int)::st)))
 (h1:∀i:Int,E LF (0,iI i::st)->E IX (0,iI i::st)) (h2:E LF (1,st)->E IX (0,iI (-1)::st)) (h3:∀i:Int,E IX (0,iI i::st)->E CT (0,.bool (decide (0<=i))::st)):
 E CT (0,.bool (l.any p)::st):=by
 rcases h with⟨h,q⟩|⟨h,i,_,q⟩
 ·rw [h];exact h3 _ (h2 q)
 ·rw [h];have:=h3 _ (h1 _ q);rw [show decide (0<=(i:Int))=true by simp]at this;exact this
def Ly(k:Int):Bool:=bif k==5 then true else bif k==15 then true else bif k==16 then true else bif k==17 then true else bif k==18 then true else bif k==19 then true else bif k==21 then true else k==22
def zd(q:Bool)(f:dW):Bool:=bif Ly f.kind then false else bif f.kind==20 then !q else bif f.kind==6 then !(f.E.any λe=>e.kind != 1)else bif f.kind==9 then !decide (0<f.Ts.length)else true
mutual
def fT(q:Bool):CS->Bool
 | .mk f l d h a=>zd q f&&(Kt q d&&(Kr q l&&(Ks q h&&Ku q a)))
def Kr(q:Bool):List CS->Bool
 | []=>true
 |s::ss=>fT q s&&Kr q ss
def smD(q:Bool):CD->Bool
 | .mk d u=>fT q d&&fT q u
def Kt(q:Bool):List CD->Bool
 | []=>true
 |s::ss=>smD q s&&Kt q ss
def smH(q:Bool):CH->Bool
 | .mk _ b=>fT q b
def Ks(q:Bool):List CH->Bool
 | []=>true
 |s::ss=>smH q s&&Ks q ss
def smA(q:Bool):CA->Bool
 | .mk _ _ _ _ b a=>fT q b&&fT q a
def Ku(q:Bool):List CA->Bool
 | []=>true
 |s::ss=>smA q s&&Ku q ss
end
def ao5(q:Bool)(l:List CS):Kr q l=l.all (fT q):=by
 induction l with
 |nil=>rfl
 |cons x l ih=>simp only [Kr,nm,ih]
def ao7(q:Bool)(l:List CD):Kt q l=(dK l).all (fT q):=by
 induction l with
 |nil=>rfl
 |cons x l ih=>cases x;simp only [Kt,smD,dK,kZ,IM,nm,Qk,ih,CD.d,CD.u,IL,Ei]
def ao6(q:Bool)(l:List CH):Ks q l=(l.map CH.body).all (fT q):=by
 induction l with
 |nil=>rfl
 |cons x l ih=>cases x;simp only [Ks,smH,fW,nm,ih,CH.body]
def ao8(q:Bool)(l:List CA):Ku q l=(aK l).all (fT q):=by
 induction l with
 |nil=>rfl
 |cons x l ih=>cases x;simp only [Ku,smA,aK,kZ,IM,nm,Qk,ih,CA.body,CA.after,IL,Ei]
def EA(q:Bool)(s:CS):fT q s=(zd q s.f&&s.kids.all (fT q)):=by
 cases s with
 |mk f l d h a=>
  simp only [fT,Se,IM,ao5,ao7,ao6,ao8,CS.f,CS.L,CS.D,CS.H,CS.A]
def fY(f:α->Row)(l:List α):ln (l.map f)=(l.length:Int):=by simp [ln]
def BP{l:List CE}(h:i<l.length):ab js 0 (gA (l.map bq) ((i:Int).toNat))=bq l[i]:=by rw [eT h,dx]
def tJ(e:CE):gI (bq e) 0=e.kind:=wO
def asG{l:List CE}(hl:l.length<=mx):Ev L7 [.U ax (l.map bq)] (0,[.bool (l.any λe=>e.kind != 1)]):=by
 refine Kd (l:=l) (st:=[]) (LF:=λN m=>C5 (FU CX EE N) N m [.U ax (l.map bq),iI (ln (l.map bq)),iI 0])
  (IX:=λN _=>FU CX EE N L8 [.U ax (l.map bq)])
  (scan (LF:=λi N m=>C5 (FU CX EE N) N m [.U ax (l.map bq),iI (ln (l.map bq)),iI (i:Int)]) ?_ λi hi r q1 q2=> ?_) (λi hi=> ?_) (λhi=> ?_) λi hi=> ?_
 ·exact bx Vo (aC eJ (ah rfl))
 ·refine bx Vo (bj (ew hi) (aV (ey hi) ?_));rw [BP hi,ix hi hl];refine ao (bu ahu (ah (by rw [tJ]))) ?_;exact Jq
 ·exact bu Vq (ao hi.diag (bj rfl (ah rfl)))
 ·exact bu Vq (ao hi.diag (aC rfl (ah rfl)))
 ·exact bu agc (ao hi (ah rfl))
def zu(x:NB):gI (bw x) 0=x.1.f.kind:=rh
def J3(x:NB):gR (bw x) 12=x.1.f.E.map bq:=rh
def atc(x:NB):gR (bw x) 16=ints x.1.f.Ts:=rh
def kdC(k:Int):E (λN _=>My (FU CX EE N) N [.int .u8 k]) (0,[.bool (Ly k)]):=by
 refine cP ahi ?_;unfold Ly
 repeat' refine aJ (λh=>ah (by simp only [*];rfl)) λh=> ?_
 exact ah (by simp only [*];rfl)
def at2(x:NB)(q:Bool)(hE:x.1.f.E.length<=mx):E (λN _=>Mz (FU CX EE N) N [.bool q,aN x]) (bif zd q x.1.f then(0,[aN x])else(1,[.bool false,aN x])):=by
 refine cP ahq ?_;rw [zu,J3,atc,ma];unfold zd;refine ao (kdC _) (aJ (c:=Ly x.1.f.kind) (λh=>ah (iF)) λh=> ?_);refine aJ (c:=x.1.f.kind==20) (λh2=>aJ (c:=q) (λh3=>ah (by rw [h,h2,h3];rfl)) λh3=>ah (by rw [h,h2,h3];rfl)) λh2=> ?_;refine aJ (c:=x.1.f.kind==6) (λh3=>ao (asG hE) (aJ (c:=x.1.f.E.any λe=>e.kind != 1) (λh4=>ah (Q9)) λh4=>ah (Q9))) λh3=> ?_;refine aJ (c:=x.1.f.kind==9) (λh4=> ?_) λh4=>ah (Q9);rw [fY,show decide ((0:Int)<((x.1.f.Ts.length:Nat):Int))=decide (0<x.1.f.Ts.length)by simp];exact aJ (λh5=>ah (by rw [h,h2,h3,h4,h5];rfl)) λh5=>ah (by rw [h,h2,h3,h4,h5];rfl)
def ati(h:i<l.length):ab pB 0 (gA (l.map bw) ((i:Int).toNat))=bw l[i]:=by rw [eT h,ma]
def aaJ{q:Bool}(hl:l.length<=mx)(h:∀x∈l,Ev Dh [aN x,.bool q] (0,[.bool (fT q x.1)])):Ev yj [lN l,.bool q] (0,[.bool (l.all λx=>fT q x.1)]):=by
 have k:Ev Mb [lN l,.agg [.bool q]] (0,[.bool (l.any λx=> !fT q x.1),.agg [.bool q]]):=by
  refine Kd (l:=l) (st:=[.agg [.bool q]]) (LF:=λN m=>C9 (FU CX EE N) N m [lN l,iI (ln (l.map bw)),iI 0,.agg [.bool q]])
   (IX:=λN _=>FU CX EE N Mh [lN l,.agg [.bool q]])
   (scan (LF:=λi N m=>C9 (FU CX EE N) N m [lN l,iI (ln (l.map bw)),iI (i:Int),.agg [.bool q]]) ?_ λi hi r q1 q2=> ?_) (λi hi=> ?_) (λhi=> ?_) λi hi=> ?_
  ·exact bx Vw (aC eJ (ah rfl))
  ·refine bx Vw (bj (ew hi) (aV (ey hi) ?_));rw [ati hi,ix hi hl];refine ao (o:=(0,[.bool (!fT q l[i].1),.agg [.bool q]])) (bu ak2 ?_) ?_
   ·rw [ma];exact ao (h _ (eH hi)) (ah rfl)
   exact Jq
  ·exact bu VF (ao hi.diag (bj rfl (ah rfl)))
  ·exact bu VF (ao hi.diag (aC rfl (ah rfl)))
  ·exact bu agq (ao hi (ah rfl))
 refine bu al1 (ao k (ah ?_));show((0,[.bool (!(l.any λx=> !fT q x.1))]):UO)=_;rw [List.not_any_eq_all_not];simp only [Bool.not_not]
def CS.Ok.hR{y:CS}(h:s.Ok)(hy:y∈s.kids):y.Ok:=by cases h with|mk _ _ _ _ _ _ _ _ h=>exact h y hy
def CS.Ok.fE(h:s.Ok):s.f.Ok:=Jm
def apA(x:NB)(q:Bool):((cg x).all λy=>fT q y.1)=x.1.kids.all (fT q):=by
 unfold cg;generalize x.1.kids=l;generalize x.2+1=n
 induction l generalizing n with
 |nil=>rfl
 |cons y l ih=>simp only [cu,nm,ih]
def A6(x:NB):(cg x).length =x.1.kids.length:=Iy _ _
def aov{l:List CS}{n:Nat}(h:y∈cu n l):y.2+aE y.1<=n+cc l∧n<=y.2:=by
 induction l generalizing n with
 |nil=>simp [cu]at h
 |cons x l ih=>
  simp only [cu,dA]at h;simp only [cc];rcases h with rfl|h
  ·simp only;omega
  ·have:=ih h;omega
def Ig{x:NB}(h:y∈cg x):y.1∈x.1.kids∧y.2+aE y.1<=x.2+aE x.1∧x.2+1<=y.2∧aE y.1+1<=aE x.1:=by
 have h1:=apo h;have h2:=aov h;have h3:=aqp h1;have h4:=Ee x.1;exact⟨h1,by omega,h2.2,by omega⟩
abbrev md:Nat:=1000000
def aae(h:aE s<=md):s.kids.length<=mx:=by
 have:=A5 s.kids;rw [Ee]at h;simp only [md,mx]at h⊢;omega
def Z1:∀s:CS,s.Ok->∀(n:Nat) (q:Bool),aE s<=md->n+aE s<=c7->Ev Dh [aN (s,n),.bool q] (0,[.bool (fT q s)]):=by
 refine CS.ind λs ih aQ n q h1 h2=> ?_;have sH:aE s<=c7:=by simp only [md,c7]at h1⊢;omega
 have gw:n+aE s<=2*c7:=by simp only [c7]at h2⊢;omega
 refine bu ahW ?_;rw [ma];refine ao (at2 (s,n) q aQ.fE.E.1) ?_;rw [EA];cases hk:zd q s.f with
 |false=>exact pR
 |true=>
  refine bj rfl ?_;erw [ma];refine ao (adY aQ sH gw) ?_;have hp:=aaJ (l:=cg (s,n)) (q:=q) (by rw [A6];exact aae h1) (λy hy=>by
   obtain⟨r1,r2,r3,r4⟩:=Ig hy;have r2:y.2+aE y.1<=n+aE s:=r2;have r4:aE y.1+1<=aE s:=r4;exact ih y.1 r1 (aQ.hR r1) y.2 q (by simp only [md]at h1⊢;omega) (by simp only [c7]at h2⊢;omega))
  rw [apA]at hp;exact ao hp (ah rfl)
def Q1(q:Bool)(hl:l.length<=mx)(h:∀x∈l,x.1.Ok∧aE x.1<=md∧x.2+aE x.1<=c7):Ev yj [lN l,.bool q] (0,[.bool (l.all λx=>fT q x.1)]):=
 aaJ hl λx hx=>Z1 x.1 (h x hx).1 x.2 q (h x hx).2.1 (h x hx).2.2
end
section
variable{s:CS}{l:List NB}{i no np:Nat}
structure sM(no np:Nat)(s:CS):Prop where
 sc:s.f.kind=9->s.L.length=1
 wh:s.f.kind=5->s.f.E.length=1∧s.L.length=1
 st:s.f.kind=2->s.f.To.length=1∧s.f.E.length=1∧∀e∈s.f.E,(e.kind=9->e.L.length=1)∧(e.kind=5->e.L.length=2)∧∀y∈e.L,y.kind=5->y.L.length=2
 dl:s.f.kind=15->s.f.E.length=1∧∀e∈s.f.E,e.kind=2->0<=e.O∧e.O<(no:Int)
 lk:s.f.kind=20->0<=s.f.P∧s.f.P<(np:Int)
inductive CS.Sh(no np:Nat):CS->Prop
 |mk(s:CS)(h:sM no np s)(hk:∀y∈s.kids,CS.Sh no np y):CS.Sh no np s
def CS.Sh.one(h:s.Sh no np):sM no np s:=Jm
def CS.Sh.hR{y:CS}(h:s.Sh no np)(hy:y∈s.kids):y.Sh no np:=by cases h with|mk _ _ hk=>exact hk y hy
def Lv:NB:=(.mk ⟨0,0,0,0,0,0,false,false,false,false,false,0,[],[],[],[],[]⟩ [] [] [] [],0)
def fk(l:List NB)(i:Nat):NB:=l.getD i Lv
def BQ(h:i<l.length):gA (l.map bw) i=bw (fk l i):=by simp [gA,fk,List.getD,h]
def wq(h:i<l.length):fk l i∈l:=by simp [fk,List.getD,h]
abbrev dJ(j:Nat)(x:NB)(tk bd:Bool):aD:=bw x++[.aa j,.bool tk,.bool bd]
def rX(j:Nat)(x:NB)(tk bd:Bool):ab kE 0 (dJ j x tk bd)=dJ j x tk bd:=pS
def wL(j k:Nat)(x:NB)(tk bd:Bool):sT (dJ j x tk bd) [(22,.aa k)]=dJ k x tk bd:=pS
def QU(j:Nat)(x:NB)(tk bd:Bool):ab pB 0 (dJ j x tk bd)=bw x:=pS
def SY(x:NB)(tk bd:Bool):sT (ab kE 0 (bw x)) [(22,.aa 12),(23,.bool tk),(24,.bool bd)]=dJ 12 x tk bd:=pS
def ac6(j:Nat)(x:NB)(tk bd c:Bool):sT (dJ j x tk bd) [(22,.aa 1),(23,.bool c)]=dJ 1 x c bd:=pS
def JM(j:Nat)(x:NB)(tk bd c:Bool):sT (dJ j x tk bd) [(22,.aa 1),(24,.bool c)]=dJ 1 x tk c:=pS
def ac5(j:Nat)(x:NB)(tk bd:Bool):gI (dJ j x tk bd) 0=x.1.f.kind:=pS
def aq5(j:Nat)(x:NB)(tk bd:Bool):gR (dJ j x tk bd) 16=ints x.1.f.Ts:=pS
def aq4(j:Nat)(x:NB)(tk bd:Bool):gR (dJ j x tk bd) 18=x.1.D.map ed:=by
 rw [dJ,Qa];rfl
def aq3(j:Nat)(x:NB)(tk bd:Bool):gR (dJ j x tk bd) 19=x.1.H.map mR:=by
 rw [dJ,Qa];rfl
def QV(j:Nat)(x:NB)(tk bd:Bool):gB (dJ j x tk bd) 23=tk:=pS
def Ez(j:Nat)(x:NB)(tk bd:Bool):gB (dJ j x tk bd) 24=bd:=pS
def ath(d:CD):gI (ed d) 21=d.u.f.kind:=by
 cases d with
 |mk d u=>cases d;cases u;rfl
def arW{l:List CD}(h:i<l.length):gI (gA (l.map ed) ((i:Int).toNat)) 21=l[i].u.f.kind :=by rw [eT h,ath]
def sk(l:List NB)(i k:Nat):List NB:=(List.range' i k).map λj=>fk l (2*j)
def aoS(l:List NB)(i k:Nat):sk l i (k+1)=fk l (2*i)::sk l (i+1) k:=by simp [sk,List.range'_succ]
def ac3(h:i<=mx):bo (2*(i:Int))=((2*i:Nat):Int):=by
 simp only [mx]at h;rw [pI (by omega) (by omega)];omega
def aty{D:List CD}(x:NB)(tk:Bool)(hl:2*D.length<=l.length)(hD:D.length<=mx):∀(bd:Bool) (st:List NB),st.length+D.length<=2*c7->
 E (λN m=>ye (FU CX EE N) N m [lN l,.U bD (D.map ed),iI (ln (D.map ed)),iI 0,.agg (dJ 1 x tk bd),lN st]) (0,[.agg (dJ 1 x tk (bd||D.any λd=>d.u.f.kind != 1)),lN (st++sk l 0 D.length)]):=by
 have k:=gy (m:=D.length) (P:=λi=>∀(bd:Bool) (st:List NB),st.length+(D.length- i)<=2*c7->
  E (λN m=>ye (FU CX EE N) N m [lN l,.U bD (D.map ed),iI (ln (D.map ed)),iI (i:Int),.agg (dJ 1 x tk bd),lN st]) (0,[.agg (dJ 1 x tk (bd||(D.drop i).any λd=>d.u.f.kind != 1)),lN (st++sk l i (D.length- i))]))
  (λbd st _=>by
    refine bx We (aC eJ (ah ?_));rw [rX,wL,nW,Ea];simp [sk])
  λi hi ih bd st hb=>by
   have e:(D.drop i).any (λd=>d.u.f.kind != 1)=(D[i].u.f.kind != 1||(D.drop (i+1)).any λd=>d.u.f.kind != 1):=ER;have px:2*i<l.length:=by omega
   have go:∀c:Bool,c=(bd||D[i].u.f.kind != 1)->E (λN n=>ae.aB (ib (bo (2*(i:Int))) (l.map bw).length) (ae.aB (decide (((st.map bw).length +1)*280<=140737488355328)) (ye (FU CX EE N) N n [lN l,.U bD (D.map ed),iI (ln (D.map ed)),iI (bo ((i:Int)+1)),.agg (dJ 1 x tk c),.U bz (st.map bw++[ab pB 0 (gA (l.map bw) (bo (2*(i:Int))).toNat)])]))) (0,[.agg (dJ 1 x tk (bd||(D.drop i).any λd=>d.u.f.kind != 1)),lN (st++sk l i (D.length- i))]):=by
    intro c hc;rw [ac3 (by omega),ix hi hD];refine aV (by rw [fI];exact oc px) (aV (by rw [fI];simp only [c7]at hb;simp;omega) ?_);rw [show(((2*i:Nat):Int)).toNat =2*i from rfl,BQ px,ma];have:=ih c (st++[fk l (2*i)]) (by rw [fC];simp only [gE,lz,c7]at hb⊢;omega);rw [hc,Bool.or_assoc,<-e,mu,YX,<-aoS,show D.length-(i+1)+1=D.length- i by omega]at this;rw [<-hc]at this;simpa only [lN,lX,fW,wy]using this
   refine bx We (bj (ew hi) (aV (ey hi) ?_));rw [Ez,rX,arW hi,JM,JM];cases bd with
   |true=>exact bj rfl (go true rfl)
   |false=>exact aC rfl (go _ (by simp))
 intro bd st hb;have:=k bd st (by omega);simpa using this
end
end Go.Proofs.YtffabbjfdgmbjaaGreat
namespace Go.ae
def yN{p:Prop}(h:p:=by exact bj rfl (ah rfl)):p:=h
def ab9{p:Prop}(h:p:=by show ib _ ((cg s.e).map bw).length =true;rw [fI];exact oc aY):p:=h
def abR{p:Prop}(h:p:=by rw [bc,bc,fr]at h3;exact h3.2.2):p:=h
end Go.ae
namespace Go.Proofs.YtffabbjfdgmbjaaGreat
open Go Go.ae
section
variable{x:NB}
structure nQ where
 e:NB
 st:List NB
 tk:Bool
 bd:Bool
def nO(q:Bool):Nat->nQ->nQ
 |0,s=>s
 |m+1,s=>
  bif s.e.1.f.kind==9 then nO q m ⟨fk (cg s.e) (2*s.e.1.D.length),s.st++sk (cg s.e) 0 s.e.1.D.length,s.tk||decide (0<s.e.1.f.Ts.length),s.bd||decide (0<s.e.1.H.length)||s.e.1.D.any λd=>d.u.f.kind != 1⟩
  else bif s.e.1.f.kind==3&&(q&&decide (0<(cg s.e).length))then nO q m ⟨fk (cg s.e) ((cg s.e).length - 1),s.st++(cg s.e).take ((cg s.e).length - 1),s.tk,s.bd⟩
  else s
abbrev zS:aD:=[.int .u8 0,iI 0,iI 0,iI 0,iI 0,iI 0,.bool false,.bool false,.bool false,.bool false,.bool false,.int .u8 0,.aa 2,.aa 3,.aa 4,.aa 5,.aa 6,.aa 7,.aa 8,.aa 9,.aa 10,iI 0,.aa 11,.bool false,.bool false]
def acZ:sT (ab PS 0 zS) [(12,.aa 2),(13,.aa 3),(14,.aa 4),(15,.aa 5),(16,.aa 6),(17,.aa 7),(18,.aa 8),(19,.aa 9),(20,.aa 10),(22,.aa 11)]=zS:=rfl
def fJ1(j:Nat)(x:NB)(tk bd:Bool)(st:List NB):E (λN _=>Na (FU CX EE N) N [.agg (dJ j x tk bd),lN st]) (0,[.agg (dJ 1 x (tk||decide (0<x.1.f.Ts.length)) bd),lN st]):=by
 refine cP ajf ?_;rw [rX,QV,aq5,ac6,ac6,fY,show decide ((0:Int)<((x.1.f.Ts.length:Nat):Int))=decide (0<x.1.f.Ts.length)by simp];cases tk with
 |true=>exact yN
 |false=>exact pR
def fJ2(j:Nat)(x:NB)(tk bd:Bool)(st:List NB):E (λN _=>M8 (FU CX EE N) N [.agg (dJ j x tk bd),lN st]) (0,[.agg (dJ 1 x tk (bd||decide (0<x.1.H.length))),lN st]):=by
 refine cP ajd ?_;rw [rX,Ez,aq3,JM,JM,fY,show decide ((0:Int)<((x.1.H.length:Nat):Int))=decide (0<x.1.H.length)by simp];cases bd with
 |true=>exact yN
 |false=>exact pR
def fJ3(j:Nat)(q:Bool)(l:List NB)(x:NB)(tk bd:Bool)(st:List NB):E (λN _=>M9 (FU CX EE N) N [.bool q,lN l,.agg (dJ j x tk bd),lN st]) (0,[.bool (x.1.f.kind==3&&(q&&decide (0<l.length))),.agg (dJ 1 x tk bd),lN st]):=by
 refine cP aje ?_;rw [rX,ac5,wL,fY,show decide ((0:Int)<((l.length:Nat):Int))=decide (0<l.length)by simp];refine aJ (c:=x.1.f.kind==3) (λh=> ?_) λh=>ah (iF);cases q with
 |true=>exact bj rfl (ah (iF))
 |false=>exact aC rfl (ah (iF))
def D2(hk:x.1.L.length=1):2*x.1.D.length<(cg x).length :=by
 rw [A6,Se];have:(dK x.1.D).length =2*x.1.D.length:=by
  generalize x.1.D=D
  induction D with
  |nil=>rfl
  |cons d D ih=>simp only [dK,kZ,fC,gE,lz]at ih⊢;omega
 simp only [fC,this,hk];omega
def ZH(l:List NB)(i k:Nat):(sk l i k).length =k:=by simp [sk]
def adg:∀(l:List CS) (n i:Nat),i<l.length->aE (fk (cu n l) i).1 +l.length<=cc l+1
 | [],_,_,h=>dB
 |x::l,n,0,_=>by
  have:=A5 l;show aE x+(l.length+1)<=aE x+cc l+1;omega
 |x::l,n,i+1,h=>by
  have:=adg l (n+aE x) i (jh);have:=n7 x;show aE (fk (cu (n+aE x) l) i).1 +(l.length+1)<=aE x+cc l+1;omega
def Eo{i:Nat}(h:i<(cg x).length):aE (fk (cg x) i).1 +(cg x).length <=aE x.1:=by
 have:=adg x.1.kids (x.2+1) i (by rw [<-A6];exact h);have e:=Ee x.1;rw [A6];unfold cg;omega
structure Room(x:NB):Prop where
 ok:x.1.Ok
 md:aE x.1<=md
 rm:x.2+aE x.1<=c7
def Room.hR{x y:NB}(h:Room x)(hy:y∈cg x):Room y∧aE y.1+1<=aE x.1∧y.1∈x.1.kids:=by
 obtain⟨r1,r2,r3,r4⟩:=Ig hy;have a:=h.md;have b:=h.rm;exact⟨⟨h.ok.hR r1,by omega,by omega⟩,r4,r1⟩
def Room.gQ(h:Room x):Ev ug [aN x] (0,[lN (cg x)])∧(cg x).length <=mx∧(cg x).length <=aE x.1:=by
 have a:=h.md;have b:=h.rm;refine⟨adY h.ok (by simp only [Go.Proofs.YtffabbjfdgmbjaaGreat.md,c7]at a⊢;omega) (by simp only [c7]at b⊢;omega),by rw [A6];exact aae a,?_⟩;rw [A6,Ee];have:=A5 x.1.kids;omega
abbrev spO(s:nQ):UO:=(0,[.agg (dJ 2 s.e s.tk s.bd),.agg (dJ 2 s.e s.tk s.bd),lN s.st])
def TL{no np:Nat}(q:Bool):∀(m:Nat) (s:nQ) (j:Nat),aE s.e.1<=m->Room s.e->s.e.1.Sh no np->s.st.length+aE s.e.1<=c7->
 E (λN n=>Ds (FU CX EE N) N n [.bool q,.agg zS,.agg (dJ j s.e s.tk s.bd),.U ax [],.U ax [],.U aL [],.U aL [],.U ak [],.U aZ [],.U bD [],.U bK [],.U bP [],lN [],lN s.st]) (spO (nO q m s))
 |0,s,j,h,_,_,_=>by have:=n7 s.e.1;omega
 |m+1,s,j,h,hr,pf,hb=>by
  obtain⟨dq,z3,sC⟩:=hr.gQ;refine bx akd ?_;rw [QU,ac5];refine ao dq ?_;unfold nO;cases h9:s.e.1.f.kind==9 with
  |true=>
   rw [show(bif true then nO q m _ else _:nQ)=_ from rfl];have hL:=pf.one.sc (eq_of_beq h9);have aY:=D2 hL;obtain⟨r1,r2,r3⟩:=hr.hR (wq aY);refine bj rfl ?_;rw [rX,wL];refine ao (fJ1 1 s.e s.tk s.bd s.st) ?_;erw [rX,wL];refine ao (fJ2 1 s.e _ s.bd s.st) ?_;erw [aq4,rX,wL];have hD:s.e.1.D.length<=mx:=by omega
   refine ao (aty s.e _ (by omega) hD _ s.st (BH)).diag ?_;have e2:bo (2*ln (s.e.1.D.map ed))=((2*s.e.1.D.length:Nat):Int):=by rw [fY];exact ac3 hD
   erw [e2];refine aV (ab9) ?_;have e3:gA ((cg s.e).map bw) (((2*s.e.1.D.length:Nat):Int)).toNat =bw (fk (cg s.e) (2*s.e.1.D.length)):=BQ aY;erw [e3,acZ,SY];erw [QV,Ez];refine TL (no:=no) (np:=np) q m ⟨fk (cg s.e) (2*s.e.1.D.length),s.st++sk (cg s.e) 0 s.e.1.D.length,s.tk||decide (0<s.e.1.f.Ts.length),s.bd||decide (0<s.e.1.H.length)||s.e.1.D.any λd=>d.u.f.kind != 1⟩ 12 (by simp only;omega) r1 (pf.hR r3) ?_;simp only [fC,ZH];have h2:aE (fk (cg s.e) (2*s.e.1.D.length)).1 +s.e.1.D.length+1<=aE s.e.1:=by
    have a:=Eo aY;omega
   exact BH
  |false=>
   rw [show(bif false then nO q m _ else _:nQ)=_ from rfl];refine aC rfl ?_;rw [rX,wL];refine ao (fJ3 1 q (cg s.e) s.e s.tk s.bd s.st) ?_;cases h3:s.e.1.f.kind==3&&(q&&decide (0<(cg s.e).length))with
   |false=>
    refine aC rfl (ah ?_);erw [rX,wL];rfl
   |true=>
    rw [show(bif true then nO q m _ else _:nQ)=_ from rfl];have h0:0<(cg s.e).length :=abR;have aY:(cg s.e).length - 1<(cg s.e).length :=by omega
    obtain⟨r1,r2,r3⟩:=hr.hR (wq aY);have e2:bo (ln ((cg s.e).map bw)- 1)=(((cg s.e).length - 1:Nat):Int):=by
     rw [fY];simp only [mx]at z3;rw [pI (by omega) (by omega)];omega
    refine bj rfl ?_;erw [e2];have i1:=Eo aY;have e3:gA ((cg s.e).map bw) ((((cg s.e).length - 1:Nat):Int)).toNat =bw (fk (cg s.e) ((cg s.e).length - 1)):=BQ aY;refine aV (by show(decide (0<=(((cg s.e).length - 1:Nat):Int))&&decide ((((cg s.e).length - 1:Nat):Int)<=ln ((cg s.e).map bw))&&decide (ln ((cg s.e).map bw)<=ln ((cg s.e).map bw)))=true;rw [fY];simp<;>omega) (aV (by show decide (((s.st.map bw).length +(((cg s.e).map bw).take ((cg s.e).length - 1)).length)*280<=140737488355328)=true;rw [lZ,fI,fI];simp only [c7]at hb;simp;omega) (aV (ab9) ?_));erw [e3,acZ,SY];erw [QV,Ez];have:=TL (no:=no) (np:=np) q m ⟨fk (cg s.e) ((cg s.e).length - 1),s.st++(cg s.e).take ((cg s.e).length - 1),s.tk,s.bd⟩ 12 (by simp only;omega) r1 (pf.hR r3) (by simp only [fC,lZ];simp only [c7]at hb⊢;omega);simp only [lN,lX,List.map_take]at this;exact this
def lH(q:Bool)(x:NB):nQ:=nO q (aE x.1) ⟨x,[],false,false⟩
def ass(x:NB):sT (ab kE 0 (bw x)) [(22,.aa 12),(23,.bool false),(24,.bool false)]=dJ 12 x false false:=SY x false false
def aaj{no np:Nat}{q:Bool}(hr:Room x)(pf:x.1.Sh no np):Ev HL [aN x,.bool q] (0,[.agg (dJ 0 (lH q x).e (lH q x).tk (lH q x).bd),lN (lH q x).st]):=by
 refine bu alv ?_;rw [ass];refine ao (TL (no:=no) (np:=np) q (aE x.1) ⟨x,[],false,false⟩ 12 (dZ _) hr pf (by have:=hr.md;simp only [Go.Proofs.YtffabbjfdgmbjaaGreat.md,c7,lz]at this⊢;omega)).diag (ah ?_);erw [rX,wL];rfl
end
end Go.Proofs.YtffabbjfdgmbjaaGreat
namespace Go.ae
def nA{p:Prop}(h:p:=by obtain⟨p,t,fi,⟨e,en⟩,st,tk,bd,⟨d,dn⟩,_⟩:=f;cases e;cases d;rfl):p:=h
def qZ{p:Prop}(h:p:=by rw [h,h2];rfl):p:=h
end Go.ae
namespace Go.Proofs.YtffabbjfdgmbjaaGreat
open Go Go.ae
section
variable{n u:aH}
structure FN where
 p:PG
 t:Nat
 first:Nat
 e:NB
 st:List NB
 tk:Bool
 bd:Bool
 dl:NB
 dH:List NB
 o:Int
 rt:Int
 prio:Int
 period:Int
 dead:Int
 lD:Int
 cost:Int
def cD(j k:Nat)(f:FN):aD:=
 [.U bE (f.p.bZ.map fM),iI f.p.ry,.U cT (f.p.tasks.map bL),.U dN (f.p.bS.map ie),iI (f.t:Int),iI (f.first:Int)]++(bw f.e++([lN f.st,.bool f.tk,.bool f.bd]++(bw f.dl++[lN f.dH,iI f.o,iI f.rt,iI f.prio,iI f.period,iI f.dead,iI f.lD,iI f.cost,.aa j,.aa k])))
section
variable (i j a b:Nat) (f:FN)
theorem b8:ab bm 0 (cD i j f)=cD i j f:=nA
theorem ca:sT (cD i j f) [(61,.aa a),(62,.aa b)]=cD a b f:=nA
theorem BR:gI (cD i j f) 54=f.o:=nA
theorem aea:gI (cD i j f) 57=f.period:=nA
theorem atk:gI (cD i j f) 59=f.lD:=nA
theorem af1:gI (cD i j f) 4=f.t:=rfl
theorem ayO:gI (cD i j f) 5=f.first:=rfl
theorem af3:gR (cD i j f) 0=f.p.bZ.map fM:=rfl
theorem TM:gR (cD i j f) 2=f.p.tasks.map bL:=rfl
theorem af2:gR (cD i j f) 3=f.p.bS.map ie:=rfl
theorem aec:gR (cD i j f) 28=f.st.map bw:=nA
theorem aeb:gR (cD i j f) 53=f.dH.map bw:=nA
theorem atn:gB (cD i j f) 29=f.tk:=nA
theorem atm:gB (cD i j f) 30=f.bd:=nA
theorem ar1(v:Int):sT (cD i j f) [(57,iI v),(61,.aa a),(62,.aa b)]=cD a b {f with period:=v}:=nA
theorem ar0(v:Int):sT (cD i j f) [(59,iI v),(61,.aa a),(62,.aa b)]=cD a b {f with lD:=v}:=nA
end
abbrev iq(a b:Nat)(f:FN)(u n:aH):aD:=[.agg (cD a b f),.U az u,.U ay n]
def hZ(o:Int)(e:CE):Bool:=bif e.kind==2 then bif e.O==o then e.off==0 else false else false
theorem KZ(e:CE):gI (bq e) 3=e.O:=wO
theorem arV(e:CE):gI (bq e) 4=e.off:=wO
theorem K1(e:CE):gI (bq e) 2=e.N:=wO
theorem atg(e:CE):gI (bq e) 1=e.op:=wO
theorem RW{i j:Nat}{f:FN}(e:CE):Ev Av [.agg (bq e),.agg (cD i j f),.U az u,.U ay n] (0,.bool (hZ f.o e)::iq 1 2 f u n):=by
 refine bu ajs ?_;rw [tJ,KZ,arV,BR,b8,ca];unfold hZ;exact aJ (λh=>aJ (λh2=>ah (qZ)) λh2=>ah (qZ)) λh=>ah (iF)
def pl0:PL:=⟨0,0,0,0,[]⟩
def zk(l:List PL)(i:Nat):PL:=l.getD i pl0
theorem ad8{l:List PL}(h:0<l.length):gA (l.map eM) 0=eM (zk l 0):=by simp [gA,zk,List.getD,h]
theorem ayI(s:CS):gI (aX s) 0=s.f.kind:=wN
theorem as6(s:CS):gR (aX s) 14=s.f.To.map eM:=wN
theorem as7(s:CS):gR (aX s) 12=s.f.E.map bq:=wN
theorem oH{α:Type}{f:α->Row}{l:List α}{m:Nat}(h:m<l.length):decide ((m:Int)<ln (l.map f))=true:=by rw [fY];simpa using h
def re(o:Int)(s:CS):Bool:=bif s.f.kind==2 then bif (zk s.f.To 0).kind ==1 then(zk s.f.To 0).O ==o else false else false
theorem ac8{i j no np:Nat}{f:FN}{s:CS}(hs:sM no np s):Ev Hn [aS s,.agg (cD i j f),.U az u,.U ay n] (0,.bool (re f.o s)::iq 1 2 f u n):=by
 refine bu ajt ?_;rw [ayI,as6,BR,b8,ca];unfold re;refine aJ (λh=> ?_) λh=>ah (iF);have hl:0<s.f.To.length:=by rw [(hs.st (eq_of_beq h)).1];omega
 rw [ad8 hl];refine aV (oH (m:=0) hl) (aJ (c:=(zk s.f.To 0).kind ==1) (λh2=>aV (oH (m:=0) hl) (ah (qZ))) λh2=>ah (qZ))
end
end Go.Proofs.YtffabbjfdgmbjaaGreat
namespace Go.ae
def Q7{p:Prop}(h:p:=by
 erw [b8,ca];exact hr):p:=h
end Go.ae
namespace Go.Proofs.YtffabbjfdgmbjaaGreat
open Go Go.ae
section
variable{a b e:CE}{f:FN}{l:List CE}{i j:Nat}{n u:aH}
def Fl{α σ:Type}{l:List α}{LF:Nat->σ->Nat->Nat->Option UO}{g:σ->α->σ}{done:σ->UO}(hd:∀s,E (LF l.length s) (done s))
 (hs:∀(i:Nat) (h:i<l.length) (s:σ) (r:UO),E (LF (i+1) (g s l[i])) r->E (LF i s) r) (s:σ):E (LF 0 s) (done (l.foldl g s)):=by
 have k:=gy (P:=λi=>∀s,E (LF i s) (done ((l.drop i).foldl g s))) (m:=l.length) (λs=>by rw [nW];exact hd s) λi hi ih s=>by
  refine hs i hi s _ ?_;rw [kG hi,nX];exact ih _
 simpa using k s
def ce0:CE:= .mk 0 0 0 0 0 0 0 0 []
def gp(l:List CE)(i:Nat):CE:=l.getD i ce0
def y7(h:i<l.length):gA (l.map bq) i=bq (gp l i):=by simp [gA,gp,List.getD,h]
def Qb(h:i<l.length):gp l i∈l:=by simp [gp,List.getD,h]
def xK(e:CE):CE:=bif e.kind==9 then gp e.L 0 else e
def oW(o:Int)(a b:CE):Option Int:=bif hZ o a then bif b.kind==1 then bif decide (0<=b.N)then some b.N else none else none else none
def zl(o:Int)(e:CE):Option Int:=bif e.kind != 5 then none else bif e.op != 1 then none else bif hZ o (gp e.L 1)then oW o (gp e.L 1) (gp e.L 0)else oW o (gp e.L 0) (gp e.L 1)
def xj(o:Int)(s:CS):Option Int:=bif re o s then zl o (xK (gp s.f.E 0))else none
structure sN where
 c:Int
 v:Int
def lM(o:Int)(s:sN)(x:NB):sN:=match xj o x.1 with|some v=>⟨bo (s.c+1),v⟩|none=>s
def axN(h:e.kind=9->e.L.length=1):E (λN _=>Mw (FU CX EE N) N [.agg (cD i j f),.U az u,.U ay n,.agg (bq e)]) (0,iq 1 2 f u n++[.agg (bq (xK e))]):=by
 refine cP ahc ?_;rw [tJ,xt,b8,ca,dx];unfold xK;refine aJ (λh2=> ?_) λh2=>ah (by rw [h2];rfl);have hl:=h (eq_of_beq h2);have hl:0<e.L.length:=by omega
 refine aV (oH (m:=0) hl) (ah ?_);rw [y7 hl,dx,h2];rfl
def axM:E (λN _=>Mv (FU CX EE N) N [.agg (cD i j f),.U az u,.U ay n,.agg (bq e)]) (bif (e.kind != 5)||(e.op != 1)then 1 else 0,iq 1 2 f u n++[.agg (bq e)]):=by
 refine cP ahb ?_;rw [tJ,atg,b8,ca,dx];exact aJ (λh2=>ah (by rw [h2];rfl)) λh2=>aJ (λh3=>ah (by rw [h2,h3];rfl)) λh3=>ah (by rw [h2,h3];rfl)
def axL:E (λN _=>Dc (FU CX EE N) N [.agg (cD i j f),.U az u,.U ay n,.agg (bq a),.agg (bq b)]) (0,.bool (oW f.o a b).isSome ::iq 1 2 f u n++[.agg (bq a),.agg (bq b)]):=by
 refine cP ag7 ?_;rw [dx,dx,b8,ca,tJ,K1];refine ao (RW a) ?_;erw [b8,ca];unfold oW;refine aJ (c:=hZ f.o a) (λh=>aJ (c:=b.kind==1) (λh2=>ah ?_) λh2=>ah (qZ)) λh=>ah (iF);rw [h,h2];cases decide (0<=b.N)<;>rfl
def arq{o:Int}{v:Int}(h:oW o a b=some v):v=b.N:=by
 unfold oW at h;cases h1:hZ o a<;>rw [h1]at h<;>first|cases h|skip
 cases h2:b.kind==1<;>rw [h2]at h<;>first|cases h|skip
 cases h3:decide (0<=b.N)<;>rw [h3]at h<;>first|cases h|skip
 rfl
def axO{no np:Nat}(hl:f.dH.length<=mx)(hs:∀x∈f.dH,sM no np x.1):Ev Hg [.agg (cD i j f),.U az u,.U ay n]
 (0,.bool ((f.dH.foldl (lM f.o) ⟨0,f.period⟩).c ==1&&(decide (1<=(f.dH.foldl (lM f.o) ⟨0,f.period⟩).v)&&decide ((f.dH.foldl (lM f.o) ⟨0,f.period⟩).v <=2147483647)))::iq 1 2 {f with period:=(f.dH.foldl (lM f.o) ⟨0,f.period⟩).v } u n):=by
 have pq:∀v:Int,({f with period:=v}:FN).o =f.o:=λ_=>rfl;have k:=Fl (l:=f.dH) (g:=lM f.o) (LF:=λq s N m=>rN (FU CX EE N) N m [iI (s.c:Int),lN f.dH,iI (ln (f.dH.map bw)),iI (q:Int),.agg (cD 1 2 {f with period:=s.v}),.U az u,.U ay n])
  (done:=λs=>(0,iI (s.c:Int)::iq 1 2 {f with period:=s.v} u n)) (λs=>by
    refine bx V2 (aC eJ (ah ?_));rw [b8,ca]) λq hq s r hr=>by
  have hm:=eH hq;have h1:=hs _ hm;generalize hx:f.dH[q]=x at h1 hr;have gx:gA (f.dH.map bw) ((q:Int).toNat)=bw x:=by rw [eT hq,hx]
  refine bx V2 (bj (ew hq) (aV (ey hq) ?_));rw [gx,aeu,ix hq hl,J3,b8,ca];refine ao (ac8 h1) ?_;erw [b8,ca];refine aJ (c:= !re f.o x.1) (λhb=> ?_) λhb=> ?_
  ·have:lM f.o s x=s:=by unfold lM xj;rw [show re f.o x.1=false by simpa using hb];rfl
   rw [this]at hr;exact hr
  have hb:re f.o x.1=true:=Jd;have k2:x.1.f.kind=2:=by
   unfold re at hb;cases h:x.1.f.kind==2 with
   |true=>exact eq_of_beq h
   |false=>rw [h]at hb;cases hb
  obtain⟨_,e1,e2⟩:=h1.st k2;have kS:0<x.1.f.E.length:=by omega
  obtain⟨e9,e5,ek⟩:=e2 _ (Qb kS);refine aV (oH (m:=0) kS) ?_;rw [y7 kS,dx];refine ao (axN e9) ?_;erw [b8,ca,dx];refine ao axM ?_;have LJ:xj f.o x.1=zl f.o (xK (gp x.1.f.E 0)):=by unfold xj;rw [hb];rfl
  have hlen:(xK (gp x.1.f.E 0)).kind =5->(xK (gp x.1.f.E 0)).L.length =2:=by
   unfold xK;cases h9:(gp x.1.f.E 0).kind ==9 with
   |true=>
    have:=e9 (eq_of_beq h9);exact ek _ (Qb (by omega))
   |false=>exact e5
  generalize xK (gp x.1.f.E 0)=e at LJ hlen⊢;cases hc:(e.kind != 5)||(e.op != 1)with
  |true=>
   refine aC rfl ?_;erw [b8,ca];have:lM f.o s x=s:=by
    unfold lM;rw [LJ];unfold zl;cases h5:e.kind != 5 with
    |true=>rfl
    |false=>rw [h5]at hc;rw [show(e.op != 1)=true by simpa using hc];rfl
   rw [this]at hr;exact hr
  |false=>
   refine bj rfl ?_;have h5:(e.kind != 5)=false:=by cases h:e.kind != 5<;>rw [h]at hc<;>first|rfl|cases hc
   have h6:(e.op != 1)=false:=by rw [h5]at hc;simpa using hc
   have kj:=hlen (by simpa using h5);have l0:0<e.L.length:=by omega
   have l1:1<e.L.length:=by omega
   have hpQ:zl f.o e=bif hZ f.o (gp e.L 1)then oW f.o (gp e.L 1) (gp e.L 0)else oW f.o (gp e.L 0) (gp e.L 1):=by unfold zl;rw [h5,h6];rfl
   refine aV (by show decide ((0:Int)<ln (gR (bq e) 8))=true;rw [xt];exact oH (m:=0) l0) (aV (by show decide ((1:Int)<ln (gR (bq e) 8))=true;rw [xt];exact oH (m:=1) l1) ?_);erw [xt,y7 l1,y7 l0,dx,dx,b8,ca];have fin:∀{a b:CE},zl f.o e=oW f.o a b->E (λN m=>bO (Dc (FU CX EE N) N [.agg (cD 1 2 {f with period:=s.v}),.U az u,.U ay n,.agg (bq a),.agg (bq b)]) λ_ o6=>bif gB o6 0 then rN (FU CX EE N) N m [iI (bo (s.c+1)),lN f.dH,iI (ln (f.dH.map bw)),iI ((q+1:Nat):Int),.agg (sT (ab bm 0 (gC o6 1)) [(57,iI (gI (gC o6 5) 2)),(61,.aa 1),(62,.aa 2)]),.U az (gR o6 2),.U ay (gR o6 3)]else rN (FU CX EE N) N m [iI s.c,lN f.dH,iI (ln (f.dH.map bw)),iI ((q+1:Nat):Int),.agg (sT (ab bm 0 (gC o6 1)) [(61,.aa 1),(62,.aa 2)]),.U az (gR o6 2),.U ay (gR o6 3)]) r:=by
    intro a b he;refine ao axL ?_;refine aJ (c:=(oW f.o a b).isSome) (λhp=> ?_) λhp=> ?_
    ·obtain⟨v,hv⟩:=PB.1 hp;have:lM f.o s x=⟨bo (s.c+1),v⟩:=by unfold lM;rw [LJ,he,hv]
     rw [this]at hr;have e2:gI (bq b) 2=v:=by rw [K1,arq hv]
     erw [b8,ar1];erw [e2];exact hr
    ·have:lM f.o s x=s:=by
      unfold lM;rw [LJ,he];cases h:oW f.o a b with
      |none=>rfl
      |some v=>rw [h]at hp;cases hp
     rw [this]at hr;exact Q7
   refine ao (RW (gp e.L 1)) ?_;erw [b8,ca];refine aJ (c:=hZ f.o (gp e.L 1)) (λeu=> ?_) λeu=> ?_
   ·exact fin (by rw [hpQ,eu];rfl)
   ·exact fin (by rw [hpQ,eu];rfl)
 refine bu aix ?_;rw [aeb,b8,ca];refine ao (k ⟨0,f.period⟩).diag ?_;generalize f.dH.foldl (lM f.o) ⟨0,f.period⟩=s;erw [b8,ca,aea];refine aJ (c:=s.c==1) (λh=>aJ (c:=decide (1<=s.v)) (λh2=>ah (qZ)) λh2=>ah (qZ)) λh=>ah (iF)
end
section
variable{f:FN}{i j no np:Nat}{n u:aH}
def FG(o:Int)(s:CS):Option Int:=bif re o s then bif (gp s.f.E 0).kind ==1 then some (gp s.f.E 0).N else none else none
def oz(o:Int)(s:sN)(x:CS):sN:=match FG o x with|some v=>⟨bo (s.c+1),v⟩|none=>s
def vD(o:Int)(s:sN)(x:NB):sN:=bif x.1.f.kind==3 then x.1.L.foldl (oz o) (oz o s x.1)else oz o s x.1
def ap6{o:Int}{s:CS}(h:re o s=true):s.f.kind=2:=by
 unfold re at h;cases h2:s.f.kind==2 with
 |true=>exact eq_of_beq h2
 |false=>rw [h2]at h;cases h
def adf{l1:aD}{x:CS}{s:sN}(hs:sM no np x):Ev Ha [aS x,.agg l1,.agg [iI s.c],.agg (cD i j {f with lD:=s.v}),.U az u,.U ay n]
 (0,[.agg [.ptr 2 0 0],.agg [iI (oz f.o s x).c],.agg (cD 3 4 {f with lD:=(oz f.o s x).v }),.U az u,.U ay n]):=by
 refine bu ahX ?_;rw [iT,as7,b8,ca];refine ao (ac8 hs) ?_;refine aJ (c:=re f.o x) (λhb=> ?_) λhb=> ?_
 ·have kS:0<x.f.E.length:=by have:=(hs.st (ap6 hb)).2.1;omega
  refine aV (oH (m:=0) kS) ?_;rw [y7 kS,tJ,K1];refine aJ (c:=(gp x.f.E 0).kind ==1) (λh2=>aV (oH (m:=0) kS) (ah ?_)) λh2=>ah ?_
  ·erw [b8,ar0];have:oz f.o s x=⟨bo (s.c+1),(gp x.f.E 0).N⟩:=by unfold oz FG;rw [hb,h2];rfl
   exact jg
  ·erw [b8,ca];have:oz f.o s x=s:=by unfold oz FG;rw [hb,h2];rfl
   exact jg
 ·refine ah ?_;erw [b8,ca];have:oz f.o s x=s:=by unfold oz FG;rw [hb];rfl
  exact jg
def axY(hl:f.st.length<=mx)(hs:∀x∈f.st,sM no np x.1∧x.1.L.length<=mx∧∀y∈x.1.L,sM no np y):Ev Hh [.agg (cD i j f),.U az u,.U ay n]
 (0,.bool ((f.st.foldl (vD f.o) ⟨0,f.lD⟩).c ==1&&(decide (0<=(f.st.foldl (vD f.o) ⟨0,f.lD⟩).v)&&decide ((f.st.foldl (vD f.o) ⟨0,f.lD⟩).v <=2147483647)))::iq 1 2 {f with lD:=(f.st.foldl (vD f.o) ⟨0,f.lD⟩).v } u n):=by
 have inner:∀(l:List CS),l.length<=mx->(∀y∈l,sM no np y)->∀s:sN,E (λN m=>Da (FU CX EE N) N m [.U aZ (l.map aX),iI (ln (l.map aX)),iI 0,.agg (cD 1 2 {f with lD:=s.v}),.U az u,.U ay n,.agg [.ptr 0 0 0],.agg [iI s.c]])
  (0,[.agg (cD 1 2 {f with lD:=(l.foldl (oz f.o) s).v }),.U az u,.U ay n,.agg [.ptr 0 0 0],.agg [iI (l.foldl (oz f.o) s).c]]):=by
  intro l hl hs s;refine Fl (l:=l) (g:=oz f.o) (LF:=λq s N m=>Da (FU CX EE N) N m [.U aZ (l.map aX),iI (ln (l.map aX)),iI (q:Int),.agg (cD 1 2 {f with lD:=s.v}),.U az u,.U ay n,.agg [.ptr 0 0 0],.agg [iI s.c]])
   (done:=λs=>(0,[.agg (cD 1 2 {f with lD:=s.v}),.U az u,.U ay n,.agg [.ptr 0 0 0],.agg [iI s.c]])) (λs=> ?_) (λq hq s r hr=> ?_) s
  ·refine bx VS (aC eJ (ah ?_));rw [b8,ca];rfl
  ·refine bx VS (bj (ew hq) (aV (ey hq) ?_));rw [eT hq,iT,ix hq hl,b8,ca];refine ao (adf (hs _ (eH hq))) ?_;exact Q7
 have k:=Fl (l:=f.st) (g:=vD f.o) (LF:=λq s N m=>Dg (FU CX EE N) N m [lN f.st,iI (ln (f.st.map bw)),iI (q:Int),.agg (cD 1 2 {f with lD:=s.v}),.U az u,.U ay n,.agg [.ptr 0 0 0],.agg [iI s.c]])
  (done:=λs=>(0,[.agg (cD 1 2 {f with lD:=s.v}),.U az u,.U ay n,.agg [.ptr 0 0 0],.agg [iI s.c]])) (λs=>by
    refine bx VZ (aC eJ (ah ?_));rw [b8,ca];rfl) λq hq s r hr=>by
  obtain⟨h1,h2,h3⟩:=hs _ (eH hq);generalize hx:f.st[q]=x at h1 h2 h3 hr;have gx:gA (f.st.map bw) ((q:Int).toNat)=bw x:=by rw [eT hq,hx]
  refine bx VZ (bj (ew hq) (aV (ey hq) ?_));rw [gx,aeu,ix hq hl,zu,ad6,b8,ca];refine ao (adf h1) ?_;erw [b8,ca];unfold vD at hr;refine aJ (c:=x.1.f.kind==3) (λhb=> ?_) λhb=> ?_
  ·rw [hb]at hr;refine ao (inner x.1.L h2 h3 _).diag ?_;exact Q7
  ·rw [hb]at hr;exact hr
 refine bu aiy ?_;rw [aec,b8,ca];refine ao (k ⟨0,f.lD⟩).diag ?_;generalize f.st.foldl (vD f.o) ⟨0,f.lD⟩=s;erw [b8,ca,atk];exact aJ (c:=s.c==1) (λh=>aJ (c:=decide (0<=s.v)) (λh2=>ah (qZ)) λh2=>ah (qZ)) λh=>ah (iF)
end
end Go.Proofs.YtffabbjfdgmbjaaGreat
namespace Go.ae
def Fe{p:Prop}(h:p:=by obtain⟨a,b,c,d⟩:=t;cases c;rfl):p:=h
def aa3{p:Prop}(h:p:=by simp at h1;exact List.length_pos_iff.2 h1):p:=h
end Go.ae
namespace Go.ae
def II:=@List.mem_of_mem_drop
end Go.ae
namespace Go.Proofs.YtffabbjfdgmbjaaGreat
open Go Go.ae Qm
section
variable{f:FN}{l:List NB}{i j no np:Nat}{n u:aH}
def apE(i j k:Nat)(f:FN)(s:nQ):(sT (cD i j f) [(6,.int .u8 (gI (dJ k s.e s.tk s.bd) 0)),(7,iI (gI (dJ k s.e s.tk s.bd) 1)),(8,iI (gI (dJ k s.e s.tk s.bd) 2)),(9,iI (gI (dJ k s.e s.tk s.bd) 3)),(10,iI (gI (dJ k s.e s.tk s.bd) 4)),(11,iI (gI (dJ k s.e s.tk s.bd) 5)),(12,.bool (gB (dJ k s.e s.tk s.bd) 6)),(13,.bool (gB (dJ k s.e s.tk s.bd) 7)),(14,.bool (gB (dJ k s.e s.tk s.bd) 8)),(15,.bool (gB (dJ k s.e s.tk s.bd) 9)),(16,.bool (gB (dJ k s.e s.tk s.bd) 10)),(17,.int .u8 (gI (dJ k s.e s.tk s.bd) 11)),(18,.U ax (gR (dJ k s.e s.tk s.bd) 12)),(19,.U ax (gR (dJ k s.e s.tk s.bd) 13)),(20,.U aL (gR (dJ k s.e s.tk s.bd) 14)),(21,.U aL (gR (dJ k s.e s.tk s.bd) 15)),(22,.U ak (gR (dJ k s.e s.tk s.bd) 16)),(23,.U aZ (gR (dJ k s.e s.tk s.bd) 17)),(24,.U bD (gR (dJ k s.e s.tk s.bd) 18)),(25,.U bK (gR (dJ k s.e s.tk s.bd) 19)),(26,.U bP (gR (dJ k s.e s.tk s.bd) 20)),(27,iI (gI (dJ k s.e s.tk s.bd) 21)),(28,.U bz (s.st.map bw)),(29,.bool (gB (dJ k s.e s.tk s.bd) 23)),(30,.bool (gB (dJ k s.e s.tk s.bd) 24)),(61,.aa 1),(62,.aa 2)])=cD 1 2 {f with e:=s.e,st:=s.st,tk:=s.tk,bd:=s.bd}:=by
 obtain⟨p,t,fi,⟨e,en⟩,st,tk,bd,⟨d,dn⟩,_⟩:=f;obtain⟨⟨e2,n2⟩,_,_,_⟩:=s;cases e;cases d;cases e2;kernel_rfl
def apF(i j:Nat)(f:FN)(x:NB)(dH:List NB)(o:Int):(sT (cD i j f) [(31,.int .u8 (gI (bw x) 0)),(32,iI (gI (bw x) 1)),(33,iI (gI (bw x) 2)),(34,iI (gI (bw x) 3)),(35,iI (gI (bw x) 4)),(36,iI (gI (bw x) 5)),(37,.bool (gB (bw x) 6)),(38,.bool (gB (bw x) 7)),(39,.bool (gB (bw x) 8)),(40,.bool (gB (bw x) 9)),(41,.bool (gB (bw x) 10)),(42,.int .u8 (gI (bw x) 11)),(43,.U ax (gR (bw x) 12)),(44,.U ax (gR (bw x) 13)),(45,.U aL (gR (bw x) 14)),(46,.U aL (gR (bw x) 15)),(47,.U ak (gR (bw x) 16)),(48,.U aZ (gR (bw x) 17)),(49,.U bD (gR (bw x) 18)),(50,.U bK (gR (bw x) 19)),(51,.U bP (gR (bw x) 20)),(52,iI (gI (bw x) 21)),(53,.U bz (dH.map bw)),(54,iI o),(61,.aa 1),(62,.aa 2)])=cD 1 2 {f with dl:=x,dH:=dH,o:=o}:=by
 obtain⟨p,t,fi,⟨e,en⟩,st,tk,bd,⟨d,dn⟩,_⟩:=f;obtain⟨e2,n2⟩:=x;cases e;cases d;cases e2;kernel_rfl
def tk0:TK:=⟨0,[],Lv.1,0⟩
def eV(l:List TK)(i:Nat):TK:=l.getD i tk0
def Sw{l:List TK}(h:i<l.length):gA (l.map bL) i=bL (eV l i):=by simp [gA,eV,List.getD,h]
def Y6{l:List TK}(h:i<l.length):eV l i∈l:=by simp [eV,List.getD,h]
def RT(t:TK)(n:Nat):sT (ab pB 2 (bL t)) [(21,iI (n:Int))]=bw (t.body,n):=Fe
def aes(t:TK):ab XI 0 (bL t)=bL t:=Fe
def af0(t:TK):gI (bL t) 0=t.prio:=rfl
def ayH(t:TK):gR (bL t) 1=t.aq.map F6:=rfl
def ayK(x:NB):gB (bw x) 8=x.1.f.ow:=pS
def vF(t:TK)(s:nQ):Bool:=bif decide (0<t.aq.length)then false else bif decide (t.prio<1)then false else bif s.tk then false else bif s.bd then false else bif s.e.1.f.kind != 5 then false else bif (gp s.e.1.f.E 0).kind != 1 then false else bif (gp s.e.1.f.E 0).N != 1 then false else s.st.all λx=>fT true x.1
def Cw(w:NB):List NB:=bif (fk (cg w) 0).1.f.kind ==3 then cg (fk (cg w) 0)else cg w
def xO(l:List NB):Bool:=bif l.length==0 then false else bif (fk l 0).1.f.kind != 15 then false else bif !(fk l 0).1.f.ow then false else(l.drop 1).all λx=>fT false x.1
def Uc:OB:=⟨0,0,0,false,[]⟩
def iw(l:List OB)(i:Int):OB:=l.getD i.toNat Uc
def Fk{l:List OB}{i:Int}(h:ib i l.length=true):gA (l.map fM) i.toNat=fM (iw l i):=by
 have:i.toNat<l.length:=by simp [ib]at h;omega
 simp [gA,iw,List.getD,this]
def gD(f:FN):nQ:=lH true ((eV f.p.tasks f.t).body,f.first)
def oB(f:FN):List NB:=Cw (gD f).e
def vE(f:FN):CE:=gp (fk (oB f) 0).1.f.E 0
def nB(f:FN):Bool:=vF (eV f.p.tasks f.t) (gD f)&&(xO (oB f)&&(hZ (vE f).O (vE f)&&(iw f.p.bZ (vE f).O).size ==1))
def pd(f:FN):FN:={f with e:=(gD f).e,st:=(gD f).st,tk:=(gD f).tk,bd:=(gD f).bd,dl:=fk (oB f) 0,dH:=(oB f).drop 1,o:=(vE f).O }
def arH{t:TK}{s:nQ}(hf:f.st=s.st∧f.tk=s.tk∧f.bd=s.bd)(hs:s.e.1.Sh no np)(hl:s.st.length<=mx)(cY:∀x∈s.st,Room x):
 E (λN _=>MQ (FU CX EE N) N [.agg (cD i j f),.U az u,.U ay n,.agg (bL t),aN s.e]) (bif vF t s then(0,iq 1 2 f u n++[.agg (bL t),aN s.e])else(1,.bool false::iq 1 2 f u n++[.agg (bL t),aN s.e])):=by
 refine cP aia ?_;rw [af0,ayH,zu,J3,aec,atn,atm,b8,ca,aes,ma,hf.1,hf.2.1,hf.2.2,fY,show decide ((0:Int)<((t.aq.length:Nat):Int))=decide (0<t.aq.length)by simp];unfold vF;refine aJ (λh=>ah (iF)) λh1=>aJ (λh=>ah (by rw [h1,h];rfl)) λh2=>aJ (λh=>ah (by rw [h1,h2,h];rfl)) λh3=>aJ (λh=>ah (by rw [h1,h2,h3,h];rfl)) λh4=>aJ (λh=>ah (by rw [h1,h2,h3,h4,h];rfl)) λh5=> ?_;have kS:0<s.e.1.f.E.length:=by have:=(hs.one.wh (by simpa using h5)).1;omega
 rw [y7 kS,tJ,K1];refine aV (oH (m:=0) kS) (aJ (λh=>ah (by rw [h1,h2,h3,h4,h5,h];rfl)) λh6=>aV (oH (m:=0) kS) (aJ (λh=>ah (by rw [h1,h2,h3,h4,h5,h6,h];rfl)) λh7=> ?_));refine ao (Q1 true hl λx hx=>⟨(cY x hx).ok,(cY x hx).md,(cY x hx).rm⟩) ?_;rw [h1,h2,h3,h4,h5,h6,h7];cases s.st.all λx=>fT true x.1 with
 |true=>exact pR
 |false=>exact yN
def arG(hl:0<l.length)(hr:Room (fk l 0)):
 E (λN _=>ML (FU CX EE N) N [.agg (cD i j f),.U az u,.U ay n,lN l]) (0,iq 1 2 f u n++[lN (bif (fk l 0).1.f.kind ==3 then cg (fk l 0)else l)]):=by
 refine cP ahT ?_;rw [BQ hl,zu,ma,b8,ca];refine aV (oH (m:=0) hl) (aV (by rw [fI];simpa using hl) (aJ (c:=(fk l 0).1.f.kind ==3) (λh=>aV (oH (m:=0) hl) (aV (by rw [fI];simpa using hl) ?_)) λh=>ah (iF)));exact ao hr.gQ.1 (ah (iF))
def arF(hl:l.length<=mx)(hr:∀x∈l,Room x):
 E (λN _=>MK (FU CX EE N) N [.agg (cD i j f),.U az u,.U ay n,lN l]) (bif xO l then(0,iq 1 2 f u n++[lN l])else(1,.bool false::iq 1 2 f u n++[lN l])):=by
 refine cP ahS ?_;rw [fY,b8,ca];unfold xO;refine aJ (c:=((l.length:Nat):Int)==0) (λh=>ah ?_) λh=> ?_
 ·rw [show(l.length==0)=true by simp at h⊢;simpa using h];rfl
 have h1:(l.length==0)=false:=by simp at h⊢;simpa using h
 have kS:0<l.length:=aa3;have d0:decide ((0:Int)<((l.length:Nat):Int))=true:=by simpa using kS
 rw [BQ kS,zu,ayK];refine aV d0 (aJ (λh=>ah (by rw [h1,h];rfl)) λh2=>aV d0 (aJ (λh=>ah (by rw [h1,h2,h];rfl)) λh3=>aV (eR) ?_));have hp:=Q1 (l:=l.drop 1) false (by rw [sZ];omega) λx hx=>⟨(hr x (II hx)).ok,(hr x (II hx)).md,(hr x (II hx)).rm⟩;simp only [lN,List.map_drop]at hp;refine ao hp ?_;rw [h1,h2,h3];cases(l.drop 1).all λx=>fT false x.1 with
 |true=>exact pR
 |false=>exact yN
def asL(h0:0<l.length)(hE:0<(fk l 0).1.f.E.length)(hO:(gp (fk l 0).1.f.E 0).kind =2->ib (gp (fk l 0).1.f.E 0).O f.p.bZ.length=true):
 E (λN _=>(aB (aW 0 (ln (l.map bw)))<|aB (cj 1 (ln (l.map bw))&&cj (ln (l.map bw)) (ln (l.map bw))&&cj (ln (l.map bw)) (ln (l.map bw)))<|aB (aW 0 (ln (l.map bw)))<|aB (aW 0 (ln (gR (gA (l.map bw) 0) 12)))<|bO (FU CX EE N Av [bN (gA (gR (gA (l.map bw) 0) 12) 0),.agg (sT (ab bm 0 (cD i j f)) [(31,.int .u8 (gI (gA (l.map bw) 0) 0)),(32,iI (gI (gA (l.map bw) 0) 1)),(33,iI (gI (gA (l.map bw) 0) 2)),(34,iI (gI (gA (l.map bw) 0) 3)),(35,iI (gI (gA (l.map bw) 0) 4)),(36,iI (gI (gA (l.map bw) 0) 5)),(37,.bool (gB (gA (l.map bw) 0) 6)),(38,.bool (gB (gA (l.map bw) 0) 7)),(39,.bool (gB (gA (l.map bw) 0) 8)),(40,.bool (gB (gA (l.map bw) 0) 9)),(41,.bool (gB (gA (l.map bw) 0) 10)),(42,.int .u8 (gI (gA (l.map bw) 0) 11)),(43,.U ax (gR (gA (l.map bw) 0) 12)),(44,.U ax (gR (gA (l.map bw) 0) 13)),(45,.U aL (gR (gA (l.map bw) 0) 14)),(46,.U aL (gR (gA (l.map bw) 0) 15)),(47,.U ak (gR (gA (l.map bw) 0) 16)),(48,.U aZ (gR (gA (l.map bw) 0) 17)),(49,.U bD (gR (gA (l.map bw) 0) 18)),(50,.U bK (gR (gA (l.map bw) 0) 19)),(51,.U bP (gR (gA (l.map bw) 0) 20)),(52,iI (gI (gA (l.map bw) 0) 21)),(53,.U bz ((l.map bw).drop 1)),(54,iI (gI (gA (gR (gA (l.map bw) 0) 12) 0) 3)),(61,.aa 1),(62,.aa 2)]),.U az u,.U ay n]) λ_ o9=>bif gB o9 0 then bI (gI (gC o9 1) 54) (gR (gC o9 1) 0)<|af [.bool (gI (ba (gR (gC o9 1) 0) (gI (gC o9 1) 54)) 0==1),.agg (sT (ab bm 0 (gC o9 1)) [(61,.aa 1),(62,.aa 2)]),.U az (gR o9 2),.U ay (gR o9 3)]else af [.bool false,.agg (sT (ab bm 0 (gC o9 1)) [(61,.aa 1),(62,.aa 2)]),.U az (gR o9 2),.U ay (gR o9 3)]:aF)) (0,.bool (hZ (gp (fk l 0).1.f.E 0).O (gp (fk l 0).1.f.E 0)&&(iw f.p.bZ (gp (fk l 0).1.f.E 0).O).size ==1)::iq 1 2 {f with dl:=fk l 0,dH:=l.drop 1,o:=(gp (fk l 0).1.f.E 0).O } u n):=by
 have d0:=oH (f:=bw) (m:=0) h0;refine aV d0 (aV (by show(decide ((1:Int)<=ln (l.map bw))&&decide (ln (l.map bw)<=ln (l.map bw))&&decide (ln (l.map bw)<=ln (l.map bw)))=true;rw [fY];simp;omega) (aV d0 ?_));rw [BQ h0,b8,<-List.map_drop,apF,J3,y7 hE,KZ,dx];refine aV (oH (m:=0) hE) (ao (RW (gp (fk l 0).1.f.E 0)) ?_);generalize hx:gp (fk l 0).1.f.E 0=x at hO⊢;refine aJ (c:=hZ x.O x) (λhs=> ?_) λhs=>ah ?_
 ·have hb:=hO (by
   unfold hZ at hs;cases h1:x.kind==2 with
   |true=>exact eq_of_beq h1
   |false=>rw [h1]at hs;cases hs)
  erw [b8,ca,BR,af3];refine aV (by rw [fI];exact hb) (ah ?_);rw [hs];show((0,_):UO)=_;erw [Fk hb];rfl
 ·erw [b8,ca];rw [hs];rfl
end
end Go.Proofs.YtffabbjfdgmbjaaGreat
namespace Go.ae
def jQ:=@decide_eq_true
end Go.ae
namespace Go.Proofs.YtffabbjfdgmbjaaGreat
open Go Go.ae
section
variable{x:NB}
structure Good(no np:Nat)(x:NB):Prop where
 rm:Room x
 sh:x.1.Sh no np
def Good.hR{no np:Nat}{x y:NB}(h:Good no np x)(hy:y∈cg x):Good no np y:=⟨(h.rm.hR hy).1,h.sh.hR (h.rm.hR hy).2.2⟩
structure Km(no np M:Nat)(s:nQ):Prop where
 e:Good no np s.e
 st:∀x∈s.st,Good no np x
 len:s.st.length+aE s.e.1<=M
def P5{no np M:Nat}(q:Bool):∀(m:Nat) {s:nQ},Km no np M s->Km no np M (nO q m s)
 |0,_,h=>h
 |m+1,s,h=>by
  unfold nO;cases h9:s.e.1.f.kind==9 with
  |true=>
   have aY:=D2 (h.e.sh.one.sc (eq_of_beq h9));have i1:=Eo aY;refine P5 q m ⟨h.e.hR (wq aY),λx hx=> ?_,?_⟩
   ·rcases jS.1 hx with hx|hx
    ·exact h.st x hx
    ·obtain⟨k,hk,rfl⟩:=nV.1 hx;have hk:=(List.mem_range'_1.1 hk).2;exact h.e.hR (wq (by omega))
   ·have:=h.len;simp only [fC,ZH];omega
  |false=>
   rw [show(bif false then nO q m _ else _:nQ)=_ from rfl];cases h3:s.e.1.f.kind==3&&(q&&decide (0<(cg s.e).length))with
   |false=>exact h
   |true=>
    have h0:0<(cg s.e).length :=abR;have aY:(cg s.e).length - 1<(cg s.e).length :=by omega
    have i1:=Eo aY;refine P5 q m ⟨h.e.hR (wq aY),λx hx=> ?_,?_⟩
    ·rcases jS.1 hx with hx|hx
     ·exact h.st x hx
     ·exact h.e.hR (List.mem_of_mem_take hx)
    ·have:=h.len;simp only [fC,lZ];omega
def YE{no np:Nat}{q:Bool}(h:Good no np x):Km no np (aE x.1) (lH q x):=P5 q _ ⟨h,λx hx=>tc,by simp⟩
def Sd(h:Room x):aE x.1<=mx:=by have:=h.md;simp only [md,mx]at this⊢;omega
section
variable {no np:Nat} {f:FN}
def IB(hg:Good no np ((eV f.p.tasks f.t).body,f.first)):Km no np (aE (eV f.p.tasks f.t).body) (gD f):=YE hg
def Zp{w:NB}(h:Good no np w)(hl:w.1.L.length=1):(∀x∈Cw w,Good no np x)∧(Cw w).length <=mx:=by
 have aY:0<(cg w).length :=by have:=D2 hl;omega
 have h0:=h.hR (wq aY);unfold Cw;cases(fk (cg w) 0).1.f.kind ==3 with
 |true=>exact⟨λx hx=>h0.hR hx,h0.rm.gQ.2.1⟩
 |false=>exact⟨λx hx=>h.hR hx,h.rm.gQ.2.1⟩
def Zq{t:TK}{s:nQ}(h:vF t s=true):s.e.1.f.kind=5:=by
 unfold vF at h;cases h1:decide (0<t.aq.length)<;>rw [h1]at h<;>first|cases h|skip
 cases h1:decide (t.prio<1)<;>rw [h1]at h<;>first|cases h|skip
 cases h1:s.tk<;>rw [h1]at h<;>first|cases h|skip
 cases h1:s.bd<;>rw [h1]at h<;>first|cases h|skip
 cases h1:s.e.1.f.kind != 5 with
 |true=>rw [h1]at h;cases h
 |false=>exact qu
def apx{l:List NB}(h:xO l=true):0<l.length∧(fk l 0).1.f.kind =15:=by
 unfold xO at h;cases h1:l.length==0<;>rw [h1]at h<;>first|cases h|skip
 cases h2:(fk l 0).1.f.kind != 15<;>rw [h2]at h<;>first|cases h|skip
 exact⟨aa3,rf⟩
def asM{i j:Nat}{u n:aH}(ht:f.t<f.p.tasks.length)(hg:Good f.p.bZ.length np ((eV f.p.tasks f.t).body,f.first)):
 ∃f',Ev Aw [.agg (cD i j f),.U az u,.U ay n] (0,.bool (nB f)::iq 1 2 f' u n)∧(nB f=true->f'=pd f):=by
 have gs:=IB hg;have mm:aE (eV f.p.tasks f.t).body <=mx:=Sd hg.rm;have ib0:ib (f.t:Int) (f.p.tasks.map bL).length =true:=by rw [fI];exact oc ht
 have g0:gA (f.p.tasks.map bL) ((f.t:Int).toNat)=bL (eV f.p.tasks f.t):=Sw ht;have fo:=aaj (q:=true) hg.rm hg.sh;have j1:=arH (i:=1) (j:=2) (f:={f with e:=(gD f).e,st:=(gD f).st,tk:=(gD f).tk,bd:=(gD f).bd }) (u:=u) (n:=n) (t:=eV f.p.tasks f.t) (s:=gD f) ⟨rfl,rfl,rfl⟩ gs.e.sh (by have:=gs.len;omega) (λx hx=>(gs.st x hx).rm);have pre:∀r:UO,_->Ev Aw [.agg (cD i j f),.U az u,.U ay n] r:=λr h=>by
  refine bu aju ?_;rw [af1,ayO,TM,b8];refine aV ib0 ?_;rw [g0,RT,aes];refine ao fo ?_;erw [apE,QU];refine ao j1 ?_;exact h
 cases h1:vF (eV f.p.tasks f.t) (gD f)with
 |false=>
  refine⟨{f with e:=(gD f).e,st:=(gD f).st,tk:=(gD f).tk,bd:=(gD f).bd },pre _ ?_,λh=>by unfold nB at h;rw [h1]at h;cases h⟩;rw [h1];refine aC rfl (ah ?_);erw [b8,ca];unfold nB;rw [h1];rfl
 |true=>
  have hk:=Zq h1;obtain⟨w1,w2⟩:=gs.e.sh.one.wh hk;obtain⟨bg,bl⟩:=Zp gs.e w2;have aY:0<(cg (gD f).e).length :=by have:=D2 w2;omega
  have afr:∀r:UO,_->Ev Aw [.agg (cD i j f),.U az u,.U ay n] r:=λr h=>by
   refine pre r ?_;rw [h1];refine bj rfl ?_;erw [ma];refine ao gs.e.rm.gQ.1 ?_;erw [b8,ca];refine ao (arG aY (gs.e.hR (wq aY)).rm) ?_;erw [b8,ca];refine ao (arF (l:=oB f) bl (λx hx=>(bg x hx).rm)) ?_;exact h
  cases h2:xO (oB f)with
  |false=>
   refine⟨{f with e:=(gD f).e,st:=(gD f).st,tk:=(gD f).tk,bd:=(gD f).bd },afr _ ?_,λh=>by unfold nB at h;rw [h1,h2]at h;cases h⟩;rw [h2];refine aC rfl (ah ?_);erw [b8,ca];unfold nB;rw [h1,h2];rfl
  |true=>
   obtain⟨l0,k15⟩:=apx h2;have g0:=bg _ (wq l0);obtain⟨e1,e2⟩:=g0.sh.one.dl k15;have e1:(fk (oB f) 0).1.f.E.length =1:=e1;have hE0:0<(fk (oB f) 0).1.f.E.length :=by rw [e1];omega
   have d0:decide ((0:Int)<ln ((oB f).map bw))=true:=oH (m:=0) l0;refine⟨pd f,afr _ ?_,λ_=>rfl⟩;rw [h2];have k:=asL (i:=1) (j:=2) (f:={f with e:=(gD f).e,st:=(gD f).st,tk:=(gD f).tk,bd:=(gD f).bd }) (u:=u) (n:=n) l0 hE0 (λh=>by have:=e2 _ (Qb hE0) h;unfold ib;exact IJ.2 ⟨jQ this.1,jQ this.2⟩);have ok:nB f=(hZ (vE f).O (vE f)&&(iw f.p.bZ (vE f).O).size ==1):=by unfold nB;rw [h1,h2];rfl
   rw [ok];exact bj rfl k
end
end
end Go.Proofs.YtffabbjfdgmbjaaGreat
namespace Go.ae
def wM{p:Prop}(h:p:=by erw [b8,ca];rfl):p:=h
def aaZ{p:Prop}(h:p:=by
 erw [b8,ca];rw [pre,nX,O3];rfl):p:=h
end Go.ae
namespace Go.ae
def Qh:=@List.foldl_append
end Go.ae
namespace Go.Proofs.YtffabbjfdgmbjaaGreat
open Go Go.ae
def pre:Nat->NB->List NB
 |0,x=>[x]
 |m+1,x=>x::(cg x).flatMap (pre m)
def tK(x:NB):List NB:=pre (aE x.1) x
def O3{α β σ:Type}(f:α->List β)(g:σ->β->σ):∀(l:List α) (s:σ),(l.flatMap f).foldl g s=l.foldl (λs x=>(f x).foldl g s) s
 | [],_=>rfl
 |x::l,s=>by rw [kZ,Qh,nX,O3 f g l]
def xC(o:Int)(p:PL):Bool:=bif p.kind != 3 then p.O==o else false
section
variable {i j:Nat} {f:FN} {u n:aH}
def wrC(p:PL):Ev He [.agg (eM p),.agg (cD i j f),.U az u,.U ay n] (0,.bool (xC f.o p)::iq 1 2 f u n):=by
 refine bu aic ?_;rw [show gI (eM p) 0=p.kind from rfl,show gI (eM p) 1=p.O from rfl,BR,b8,ca];unfold xC;exact aJ (λh=>ah (iF)) λh=>ah (iF)
def atM{l:List PL}(hl:l.length<=mx):Ev C6 [.U aL (l.map eM),.agg (cD i j f),.U az u,.U ay n] (0,.bool (l.any (xC f.o))::iq 1 2 f u n):=by
 refine Kd (l:=l) (st:=iq 1 2 f u n) (LF:=λN m=>C7 (FU CX EE N) N m ([.U aL (l.map eM),iI (ln (l.map eM)),iI 0]++iq 1 2 f u n))
  (IX:=λN _=>FU CX EE N Ma (.U aL (l.map eM)::iq 1 2 f u n))
  (scan (LF:=λi N m=>C7 (FU CX EE N) N m ([.U aL (l.map eM),iI (ln (l.map eM)),iI (i:Int)]++iq 1 2 f u n)) ?_ λi hi r q1 q2=> ?_) (λi hi=> ?_) (λhi=> ?_) λi hi=> ?_
 ·refine bx Vp (aC eJ (ah ?_));rw [b8,ca]
 ·refine bx Vp (bj (ew hi) (aV (ey hi) ?_));rw [eT hi,aet,ix hi hl,b8,ca];refine ao (wrC _) ?_;erw [b8,ca];exact Jq
 ·refine bu Vv ?_;rw [b8,ca];refine ao hi.diag (bj rfl (ah ?_));exact wM
 ·refine bu Vv ?_;rw [b8,ca];refine ao hi.diag (aC rfl (ah ?_));exact wM
 ·refine bu agf ?_;rw [b8,ca];refine ao hi (ah ?_);exact wM
end
def LA(o:Int)(s:CS):Bool:=bif s.f.kind==6 then(bif s.f.O==o then true else bif s.f.kind==16 then s.f.mi.any (xC o)else false)else bif s.f.kind==16 then s.f.mi.any (xC o)else false
def FP(o:Int)(s:CS):Bool:=bif LA o s then true else bif decide (0<s.f.To.length)then xC o (zk s.f.To 0)else false
def om(o:Int)(c:Int)(x:NB):Int:=bif FP o x.1 then bo (c+1)else c
abbrev GW(a b c:Nat)(v:Int)(f:FN)(u n:aH):aD:=[.agg [.ptr a 0 0],.agg [iI v],.agg (cD b c f),.U az u,.U ay n]
def ayM(x:NB):gI (bw x) 2=x.1.f.O:=rh
def atd(x:NB):gR (bw x) 15=x.1.f.mi.map eM:=rh
def ate(x:NB):gR (bw x) 14=x.1.f.To.map eM:=rh
section
variable {i j:Nat} {f:FN} {u n:aH}
def isC(x:NB)(l0:aD)(v:Int)(ho:x.1.f.mi.length<=mx):E (λN _=>MF (FU CX EE N) N [.agg l0,.agg [iI v],.agg (cD i j f),.U az u,.U ay n,aN x]) (0,.bool (LA f.o x.1)::GW 2 3 4 v f u n++[aN x]):=by
 refine cP ahC ?_;rw [zu,ayM,atd,BR,b8,ca,ca,ma];have k:∀c:Bool,E (λN m=>bO (FU CX EE N C6 [.U aL (x.1.f.mi.map eM),.agg (cD 1 2 f),.U az u,.U ay n]) λ_ o1=>Qm.af [.bool (gB o1 0),.agg [.ptr 2 0 0],.agg [iI (gI [iI v] 0)],.agg (sT (ab bm 0 (gC o1 1)) [(61,.aa 3),(62,.aa 4)]),.U az (gR o1 2),.U ay (gR o1 3),aN x]) (0,.bool (x.1.f.mi.any (xC f.o))::GW 2 3 4 v f u n++[aN x]):=λ_=>by
  refine ao (atM ho) (ah ?_);exact wM
 unfold LA;refine aJ (c:=x.1.f.kind==6) (λh=>aJ (c:=x.1.f.O==f.o) (λh2=>ah (qZ)) λh2=>aJ (c:=x.1.f.kind==16) (λh3=> ?_) λh3=>ah (by rw [h,h2,h3];rfl)) λh=>aJ (c:=x.1.f.kind==16) (λh3=> ?_) λh3=>ah (by rw [h,h3];rfl)
 ·rw [h,h2,h3];exact k true
 ·rw [h,h3];exact k true
def ayv(x:NB)(l0:aD)(v:Int)(ho:x.1.f.mi.length<=mx):Ev MO [aN x,.agg l0,.agg [iI v],.agg (cD i j f),.U az u,.U ay n] (0,GW 2 3 4 (om f.o v x) f u n):=by
 refine bu aie ?_;rw [b8,ca,ma];refine ao (isC x _ v ho) ?_;unfold om FP;refine aJ (c:=LA f.o x.1) (λh=>ah ?_) λh=> ?_
 ·erw [b8,ca];rw [h];rfl
 rw [h];erw [ate,fY,b8,ca,ca];have e:decide ((0:Int)<((x.1.f.To.length:Nat):Int))=decide (0<x.1.f.To.length):=by simp
 rw [show decide ((0:Int)<((x.1.f.To.length:Nat):Int))=decide (0<x.1.f.To.length)by simp];refine aJ (c:=decide (0<x.1.f.To.length)) (λh2=>aV h2 ?_) λh2=>ah (by rw [h2];rfl);rw [ad8 (rf),aet];refine ao (wrC _) ?_;rw [h2];refine aJ (c:=xC f.o (zk x.1.f.To 0)) (λh3=>ah ?_) λh3=>ah ?_
 ·erw [b8,ca];rw [h3];rfl
 ·erw [b8,ca];rw [h3];rfl
def aeg:∀(m:Nat) (x:NB),aE x.1<=m->Room x->∀(a i j:Nat) (v:Int),Ev GZ [aN x,.agg [.ptr a 0 0],.agg [iI v],.agg (cD i j f),.U az u,.U ay n] (0,GW 2 3 4 ((pre m x).foldl (om f.o) v) f u n)
 |0,x,h,_,_,_,_,_=>by have:=n7 x.1;omega
 |m+1,x,h,hr,a,i,j,v=>by
  obtain⟨dq,z3,sC⟩:=hr.gQ;refine bu agr ?_;rw [ma,b8,ca];refine ao (ayv x _ v hr.ok.fE.mi.1) (ao dq ?_);erw [b8,ca];have k:=Fl (l:=cg x) (g:=λv y=>(pre m y).foldl (om f.o) v) (LF:=λq v N n'=>GX (FU CX EE N) N n' [iI (ln ((cg x).map bw)),iI (q:Int),.agg [.ptr 2 0 0],.agg [iI v],.agg (cD 3 4 f),.U az u,.U ay n,lN (cg x)])
   (done:=λv=>(0,GW 2 3 4 v f u n++[lN (cg x)])) (λv=>by
     refine bx Vr (aC eJ (ah ?_));rw [b8,ca];rfl) λq hq v r jX=>by
   have hm:=eH hq;obtain⟨r1,r2,_⟩:=hr.hR hm;refine bx Vr (bj (ew hq) (aV (ey hq) (aV (EK) ?_)));rw [eT hq,ma,ix hq z3,b8,ca];refine ao (aeg m _ (by omega) r1 2 3 4 v) ?_;erw [b8,ca];exact jX
  refine ao (k (om f.o v x)).diag (ah ?_);exact aaZ
end
end Go.Proofs.YtffabbjfdgmbjaaGreat
namespace Go.ae
def abe{p:Prop}(h:p:=by simp only [tx,hc,hd,he,hf,da,dj]):p:=h
end Go.ae
namespace Go.ae
def dj:=@cond_false
end Go.ae
namespace Go.Proofs.YtffabbjfdgmbjaaGreat
open Go Go.ae
section
variable{i:Nat}{l:bW}
def gQ(l:bW)(n:Int):Bool:=l.any (·==n)
def apT(l:bW)(n:Int):l.any (n== ·)=gQ l n:=by
 unfold gQ;congr 1;funext x;exact BEq.comm
def D3(n:Int)(hl:l.length<=mx):Ev sO [.U ak (ints l),iI n] (0,[.bool (gQ l n)]):=by
 have h:=scan (l:=l) (p:=(n== ·)) (hit:=λi=>(0,[iI (i:Int)])) (done:=(1,[])) (LF:=λi N m=>Hq (FU CX EE N) N m [.U ak (ints l),iI n,iI (ln (ints l)),iI (i:Int)])
  (bx Wo (aC eJ (ah rfl)))
  λi hi r h1 h2=>bx Wo<|bj (ew hi)<|aV (ey hi)<|by
   rw [eT hi,ix hi hl];exact aJ (λhc=>ah (h1 hc)) h2
 rw [apT]at h;rcases h with⟨h1,h2⟩|⟨h1,i,hi,h2⟩
 ·refine bu Wt (ao (o:=(0,[iI (-1)])) (bu WO (ao h2.diag (ah rfl))) (ah ?_));rw [h1];rfl
 ·refine bu Wt (ao (o:=(0,[iI (i:Int)])) (bu WO (ao h2.diag (ah rfl))) (ah ?_));rw [h1];simp [gI,AV.toI]
def tx(l:bW)(lo hi:Int)(i:Nat):Bool:=bif decide (l.getD i 0<lo)then true else bif decide (hi<l.getD i 0)then true else bif decide (0<i)then decide (l.getD i 0<=l.getD (i- 1) 0)else false
def KD(l:bW)(lo hi:Int):Bool:= !(List.range l.length).any (tx l lo hi)
def pr{n:Nat}(h:i<n)(hn:n<=mx)(h0:decide ((0:Int)<(i:Int))=true):bo ((i:Int)- 1)=((i- 1:Nat):Int):=by
 have:0<i:=by simpa using h0
 simp only [mx]at hn;exact BI
def zi:decide ((0:Int)<(i:Int))=decide (0<i):=by
 cases i with
 |zero=>rfl
 |succ n=>simp
def axG(lo hi:Int)(hl:l.length<=mx):Ev Ou [.U ak (ints l),iI lo,iI hi] (0,[.bool (KD l lo hi)]):=by
 have h:=asy (m:=l.length) (p:=tx l lo hi) (hit:=(0,[.bool false])) (done:=(1,[])) (LF:=λi N m=>DD (FU CX EE N) N m [.U ak (ints l),iI lo,iI hi,.U ak (ints l),iI (ln (ints l)),iI (i:Int)])
  (bx W2 (aC eJ (ah rfl)))
  λi h r h1 h2=>bx W2<|bj (ew h)<|aV (ey h)<|by
   rw [EZ h,ix h hl];refine aJ (λhc=>ah (h1 (by simp only [tx,hc,da]))) λhc=>aJ (λhd=>ah (h1 (by simp only [tx,hc,hd,da,dj]))) λhd=>aJ (λhe=> ?_) λhe=>h2 (by rw [zi]at he;simp only [tx,hc,hd,he,dj]);rw [pr h hl he];have vO:i- 1<l.length:=by omega
   rw [EZ vO];rw [zi]at he;exact aV (ey vO)<|aJ (λhf=>ah (h1 (abe))) λhf=>h2 (abe)
 refine bu amU (ao h.diag ?_);unfold KD;cases(List.range l.length).any (tx l lo hi)<;>exact ah rfl
def Yc{k:IntKind}(es:List (AV×AV))(a b:Int)(v:AV):ae.dm (ae.jK es (.int k a) v) (.int k b)=if b=a then some v else ae.dm es (.int k b):=by
 induction es with
 |nil=>
  simp only [ae.jK,ae.dm,ae.qI]
  by_cases h:b=a
  ·subst h;simp
  ·have:(b==a)=false:=by simpa using h
   simp [h,this]
 |cons e es ih=>
  obtain⟨x,y⟩:=e;simp only [ae.jK];cases hk:ae.qI (.int k a) x with
  |true=>
   simp only [ae.dm];rw [show ae.qI (.int k b) (.int k a)=(b==a)from rfl]
   by_cases h:b=a
   ·subst h;simp
   ·have h2:(b==a)=false:=by simpa using h
    have h3:ae.qI (.int k b) x=false:=by
     cases x<;>simp only [ae.qI]at hk⊢<;>try cases hk
     have:=eq_of_beq hk;subst this;exact h2
    simp [h,h2,h3]
  |false=>
   simp only [ae.dm];rw [ih]
   by_cases h:b=a
   ·subst h;simp [hk]
   ·simp [h]
def tN(l:bW)(lo hi:Int)(i:Nat):Bool:=bif decide (l.getD i 0<lo)then true else bif decide (hi<l.getD i 0)then true else gQ (l.take i) (l.getD i 0)
def nG(l:bW)(lo hi:Int):Bool:= !(List.range l.length).any (tN l lo hi)
def apB(h:i<l.length)(n:Int):gQ (l.take (i+1)) n=(gQ (l.take i) n||l.getD i 0==n):=by
 unfold gQ;rw [List.take_succ,List.any_append];simp [cJ h]
def amu{p:Nat->Bool}{m:Nat}(h:i<m):(List.range' i (m- i)).any p=(p i||(List.range' (i+1) (m-(i+1))).any p):=by
 rw [show m- i=(m-(i+1))+1 by omega,List.range'_succ,Qi]
def atW(lo up:Int)(hl:l.length<=mx):Ev HY [.U ak (ints l),iI lo,iI up] (0,[.bool (nG l lo up)]):=by
 have h:=gy (m:=l.length) (P:=λi=>∀es:List (AV×AV),(∀x,dm es (.int .i64 x)=if gQ (l.take i) x=true then some (.bool true)else none)->
  ∃ys,E (λN m=>yi (FU CX EE N) N m [iI lo,iI up,.U ak (ints l),iI (ln (ints l)),iI (i:Int),.U 0 (au es)]) (bif (List.range' i (l.length- i)).any (tN l lo up)then(0,[.bool false,.U 0 ys])else(1,[.U 0 ys])))
  (λes _=>⟨au (aq (au es)),bx WZ (aC eJ (ah (by simp)))⟩)
  λi hi ih es he=>by
   have hf:=he (l.getD i 0);have step:∀ys r,(tN l lo up i=true->(0,[.bool false,.U 0 (au (aq (au es)))])=r)->(tN l lo up i=false->E (λN m=>yi (FU CX EE N) N m [iI lo,iI up,.U ak (ints l),iI (ln (ints l)),iI ((i+1:Nat):Int),.U 0 ys]) r)->ys=au (jK es (.int .i64 (l.getD i 0)) (.bool true))->
    E (λN m=>yi (FU CX EE N) N m [iI lo,iI up,.U ak (ints l),iI (ln (ints l)),iI (i:Int),.U 0 (au es)]) r:=by
    intro ys r h1 h2 hy;refine bx WZ<|bj (ew hi)<|aV (ey hi) ?_;rw [EZ hi,ix hi hl];refine aJ (λhc=>ah (h1 (by simp only [tN,hc,da]))) λhc=>aJ (λhd=>ah (h1 (by simp only [tN,hc,hd,da,dj]))) λhd=> ?_;cases hn:gQ (l.take i) (l.getD i 0)with
    |true=>
     rw [hn,if_pos rfl]at hf;rw [show dm (aq (au es)) (iI (l.getD i 0))=some (.bool true)by rw [yB];exact hf];exact bj rfl (ah (h1 (by simp only [tN,hc,hd,hn,dj])))
    |false=>
     rw [hn,if_neg (by simp)]at hf;rw [show dm (aq (au es)) (iI (l.getD i 0))=none by rw [yB];exact hf];rw [yB,<-hy];exact h2 (by simp only [tN,hc,hd,hn,dj])
   rw [amu hi];cases hp:tN l lo up i with
   |true=>exact⟨_,step _ _ (λ_=>rfl) (λh=>ET) rfl⟩
   |false=>
    rw [IK];obtain⟨ys,hy⟩:=ih (jK es (.int .i64 (l.getD i 0)) (.bool true)) λx=>by
     rw [Yc,he,apB hi]
     by_cases hx:x=l.getD i 0
     ·subst hx;simp
     ·have:(l.getD i 0==x)=false:=by simpa using λh=>hx h.symm
      rw [if_neg hx,this,Bool.or_false]
    exact⟨ys,step _ _ (λh=>ET) (λ_=>hy) rfl⟩
 obtain⟨ys,h⟩:=h [] λx=>by simp [dm,gQ]
 refine bu amT (ao h.diag ?_);unfold nG;rw [List.range_eq_range',Nat.sub_zero];cases(List.range' 0 l.length).any (tN l lo up)<;>exact ah rfl
end
section
variable {i j:Nat} {f:FN} {u n:aH}
def ayY(o:OB)(a:Nat)(h:o.Ok):Ev MN [.agg (fM o),.agg [.ptr a 0 0],.agg (cD i j f),.U az u,.U ay n] (0,.bool (gQ o.set f.o):: .agg [.ptr 1 0 0]::iq 2 3 f u n):=by
 refine bu aid ?_;rw [BR,b8,ca];exact ao (D3 _ h) (ah rfl)
def Kp(o:OB):ab OT 0 (fM o)=fM o:=rfl
def atI{l:List OB}(hl:l.length<=mx)(ho:∀o∈l,o.Ok):Ev L9 [.U bE (l.map fM),.agg [.ptr 1 0 0],.agg (cD i j f),.U az u,.U ay n] (0,.bool (l.any λo=>gQ o.set f.o):: .agg [.ptr 1 0 0]::iq 2 3 f u n):=by
 refine Kd (l:=l) (st:= .agg [.ptr 1 0 0]::iq 2 3 f u n) (LF:=λN m=>C8 (FU CX EE N) N m ([.U bE (l.map fM),iI (ln (l.map fM)),iI 0,.agg [.ptr 1 0 0]]++iq 2 3 f u n))
  (IX:=λN _=>FU CX EE N Me (.U bE (l.map fM):: .agg [.ptr 1 0 0]::iq 2 3 f u n))
  (scan (LF:=λi N m=>C8 (FU CX EE N) N m ([.U bE (l.map fM),iI (ln (l.map fM)),iI (i:Int),.agg [.ptr 1 0 0]]++iq 2 3 f u n)) ?_ λi hi r q1 q2=> ?_) (λi hi=> ?_) (λhi=> ?_) λi hi=> ?_
 ·refine bx Vt (aC eJ (ah ?_));rw [b8,ca]
 ·refine bx Vt (bj (ew hi) (aV (ey hi) ?_));rw [eT hi,Kp,ix hi hl,b8,ca];refine ao (ayY _ 1 (ho _ (eH hi))) ?_;erw [b8,ca];exact Jq
 ·refine bu VA ?_;rw [b8,ca];refine ao hi.diag (bj rfl (ah ?_));exact wM
 ·refine bu VA ?_;rw [b8,ca];refine ao hi.diag (aC rfl (ah ?_));exact wM
 ·refine bu agl ?_;rw [b8,ca];refine ao hi (ah ?_);exact wM
def L5(f:FN):Int:=f.p.tasks.foldl (λv t=>(pre (aE t.body) (t.body,0)).foldl (om f.o) v) 0
def yc(f:FN):Bool:=bif L5 f==2 then !(f.p.bZ.any λo=>gQ o.set f.o)else false
def asi(hl:f.p.tasks.length<=mx)(hr:∀t∈f.p.tasks,Room (t.body,0))(hol:f.p.bZ.length<=mx)(ho:∀o∈f.p.bZ,o.Ok):Ev Hi [.agg (cD i j f),.U az u,.U ay n] (0,.bool (yc f)::iq 1 2 f u n):=by
 have k:=Fl (l:=f.p.tasks) (g:=λv t=>(pre (aE t.body) (t.body,0)).foldl (om f.o) v) (LF:=λq v N m=>Hc (FU CX EE N) N m [.U cT (f.p.tasks.map bL),iI (ln (f.p.tasks.map bL)),iI (q:Int),.agg (cD 1 2 f),.U az u,.U ay n,.agg [.ptr 0 0 0],.agg [iI v]])
  (done:=λv=>(0,iq 1 2 f u n++[.agg [.ptr 0 0 0],.agg [iI v]])) (λv=>by
    refine bx V5 (aC eJ (ah ?_));rw [b8,ca];rfl) λq hq v r jX=>by
  have hm:=eH hq;refine bx V5 (bj (ew hq) (aV (ey hq) ?_));rw [eT hq,ix hq hl,b8,ca];erw [RT _ 0];refine ao (aeg _ (f.p.tasks[q].body,0) (dZ _) (hr _ hm) 2 3 4 v) ?_;erw [b8,ca];exact jX
 refine bu aiQ ?_;rw [TM,b8,ca];refine ao (k 0).diag ?_;unfold yc L5;generalize f.p.tasks.foldl (λv t=>(pre (aE t.body) (t.body,0)).foldl (om f.o) v) 0=v;erw [af3,b8,ca,ca];refine aJ (c:=v==2) (λh=> ?_) λh=>ah (iF);rw [h];refine ao (atI hol ho) (ah ?_);exact wM
def ua(f:FN):Int:=bif (eV f.p.tasks f.t).dead ==0 then f.period else(eV f.p.tasks f.t).dead
def pA(f:FN):FN:={f with rt:=f.t,prio:=(eV f.p.tasks f.t).prio,dead:=ua f}
def as5(t:TK):gI (bL t) 23=t.dead:=Fe
def ad9(x y z:Int):sT (cD i j f) [(55,iI x),(56,iI y),(58,iI z),(61,.aa 1),(62,.aa 2)]=cD 1 2 {f with rt:=x,prio:=y,dead:=z}:=nA
def atz(ht:f.t<f.p.tasks.length):Ev Hb [.agg (cD i j f),.U az u,.U ay n] (0,.bool (decide (ua f<=f.period))::iq 1 2 (pA f) u n):=by
 refine bu ahY ?_;have g0:gA (f.p.tasks.map bL) ((f.t:Int).toNat)=bL (eV f.p.tasks f.t):=Sw ht;rw [af1,TM,aea,g0,as5,af0,b8,ad9,ad9];refine aV (by rw [fI];exact oc ht) (aJ (c:=(eV f.p.tasks f.t).dead ==0) (λh=>ah ?_) λh=>ah ?_)
 ·unfold pA ua;rw [h];rfl
 ·unfold pA ua;rw [h];rfl
end
end Go.Proofs.YtffabbjfdgmbjaaGreat
namespace Go.ae
def abD{p:Prop}(h:p:=by rw [kG hq];simp only [kK,fW,nk];omega):p:=h
end Go.ae
namespace Go.Proofs.YtffabbjfdgmbjaaGreat
open Go Go.ae
section
variable{l:List PR}{K np:Nat}
def foldI{α σ:Type}{l:List α}{LF:Nat->σ->Nat->Nat->Option UO}{g:σ->α->σ}{done:σ->UO}{I:Nat->σ->Prop}(hd:∀s,I l.length s->E (LF l.length s) (done s))
 (hI:∀(i:Nat) (h:i<l.length) (s:σ),I i s->I (i+1) (g s l[i])) (hs:∀(i:Nat) (h:i<l.length) (s:σ) (r:UO),I i s->E (LF (i+1) (g s l[i])) r->E (LF i s) r) (s:σ) (h0:I 0 s):E (LF 0 s) (done (l.foldl g s)):=by
 have k:=gy (P:=λi=>∀s,I i s->E (LF i s) (done ((l.drop i).foldl g s))) (m:=l.length) (λs h=>by rw [nW];exact hd s h) λi hi ih s h=>by
  refine hs i hi s _ h ?_;rw [kG hi,nX];exact ih _ (hI i hi s h)
 simpa using k s h0
def mg(l:bW):Row:=[.sub ak (ints l)]
structure US where
 al:List bW
 ok:Bool
variable{s:US}
def pr0:PR:=⟨0,[],[]⟩
def uY(l:List PR)(i:Nat):PR:=l.getD i pr0
def jA(l:List PR)(prio:Int)(s:US)(x:NB):US:=bif x.1.f.kind==20 then⟨s.al.set x.1.f.P.toNat (s.al.getD x.1.f.P.toNat []++[(x.2:Int)]),s.ok&&decide (prio<=(uY l x.1.f.P.toNat).ceil)⟩else s
abbrev cap:Nat:=8796093022208
structure LS(np K:Nat)(s:US):Prop where
 len:s.al.length=np
 all:∀l∈s.al,l.length+K<=cap
def LS.mono{J:Nat}(h:LS np K s)(hJ:J<=K):LS np J s:=⟨h.len,λl hl=>by have:=h.all l hl;omega⟩
def LS.step{prio:Int}(h:LS np (K+1) s)(x:NB):LS np K (jA l prio s x):=by
 unfold jA;cases x.1.f.kind==20 with
 |false=>exact h.mono (by omega)
 |true=>
  refine⟨by simpa using h.len,λy hy=> ?_⟩;have hy:y∈s.al.set x.1.f.P.toNat (s.al.getD x.1.f.P.toNat []++[(x.2:Int)]):=hy
  by_cases hk:x.1.f.P.toNat<s.al.length
  ·rcases List.mem_or_eq_of_mem_set hy with hy|rfl
   ·have:=h.all y hy;omega
   ·have e:s.al.getD x.1.f.P.toNat []=s.al[x.1.f.P.toNat]:=by simp [List.getD,hk]
    have:=h.all _ (eH hk);rw [e,fC];simp only [gE,lz];omega
  ·rw [List.set_eq_of_length_le (by omega)]at hy;have:=h.all y hy;omega
def LS.fold{np:Nat}{l:List PR}{prio:Int}:∀(L:List NB) {K:Nat} {s:US},LS np (K+L.length) s->LS np K (L.foldl (jA l prio) s)
 | [],_,_,h=>h
 |x::L,K,s,h=>by
  rw [nX];exact LS.fold L (LS.step (K:=K+L.length) (by simpa [pG]using h) x)
def kK(l:List NB):Nat:=(l.map λx=>aE x.1).sum
def Yu:∀(l:List CS) (n:Nat),kK (cu n l)=cc l
 | [],_=>rfl
 |x::l,n=>by simp only [cu,kK,fW,nk,cc];rw [<-Yu l (n+aE x)];rfl
def Ia(x:NB):kK (cg x)+1=aE x.1:=by unfold cg;rw [Yu,Ee];omega
def IV:∀(m:Nat) (x:NB),(pre m x).length <=aE x.1
 |0,x=>n7 x.1
 |m+1,x=>by
  have k:∀l:List NB,(l.flatMap (pre m)).length <=kK l:=by
   intro l
   induction l with
   |nil=>exact dZ _
   |cons y l ih=>have:=IV m y;simp only [kZ,fC,kK,fW,nk]at ih⊢;omega
  have:=k (cg x);have:=Ia x;simp only [pre,gE];omega
def ayL(x:NB):gI (bw x) 4=x.1.f.P:=rh
def as8(x:NB):gI (bw x) 21=(x.2:Int):=rh
def ayN{i:Nat}(h:i<l.length):gA (l.map ie) i=ie (uY l i):=by simp [gA,uY,List.getD,h]
def atl(i j:Nat)(f:FN):gI (cD i j f) 56=f.prio:=nA
abbrev Li(a b c d:Nat)(s:US)(f:FN)(u n:aH):aD:=[.agg [.aa a],.agg [.bool s.ok],.agg [.ptr b 0 0],.U ay (s.al.map mg),.agg (cD c d f),.U az u,.U ay n]
section
variable {f:FN} {u n:aH}
def atV(x:NB)(s:US)(l1 l3:aD)(i j:Nat)(hs:LS f.p.bS.length 1 s)(hP:x.1.f.kind=20->0<=x.1.f.P∧x.1.f.P<(f.p.bS.length:Int)):
 Ev MR [aN x,.agg l1,.agg [.bool s.ok],.agg l3,.U ay (s.al.map mg),.agg (cD i j f),.U az u,.U ay n] (0,Li 3 4 5 6 (jA f.p.bS f.prio s x) f u n):=by
 refine bu aiw ?_;rw [zu,ayL,as8,b8,ca,af2,atl];unfold jA;refine aJ (c:=x.1.f.kind==20) (λh=> ?_) λh=>ah (iF);obtain⟨p0,p1⟩:=hP (eq_of_beq h);rw [h];obtain⟨k,hk⟩:∃k:Nat,x.1.f.P=(k:Int):=⟨x.1.f.P.toNat,by omega⟩;rw [hk]at p0 p1⊢;have kp:k<f.p.bS.length:=by omega
 have ka:k<s.al.length:=by rw [hs.len];exact kp
 have e0:((k:Int)).toNat =k:=rfl;rw [e0,Br ka,ayN kp];have hl:=hs.all _ (eH ka);have dk:decide (k<(s.al.map mg).length)=true:=by simpa using ka
 have ik:ib (k:Int) (s.al.map mg).length =true:=by rw [fI];exact oc ka
 refine aV (by rw [dk];rfl) (aV ik (aV dk (aV (by simp) (aV ?_ (aV ik (aV (by rw [dk];simp) ?_))))))
 ·show decide (((ints s.al[k]).length +1)*8<=140737488355328)=true;rw [fI];simp only [cap]at hl;simp;omega
 have e1:(s.al.map mg).set k ((mg s.al[k]).set 0 (.sub ak ((gV (mg s.al[k]) 0).rows ++[[iI (x.2:Int)]])))=(s.al.set k (s.al.getD k []++[(x.2:Int)])).map mg:=by
  rw [List.map_set]
  congr 1
  have:s.al.getD k []=s.al[k]:=by simp [List.getD,ka]
  rw [this];simp [mg,gV,AV.rows,ints]
 rw [e1];refine aJ (c:=s.ok) (λh2=>aV (by rw [fI];exact oc kp) (ah ?_)) λh2=>ah ?_
 ·rw [h2];rfl
 ·rw [h2];rfl
def ZP{no np:Nat}(x7:f.p.bS.length=np):∀(m:Nat) (x:NB),aE x.1<=m->Good no np x->∀(s:US) (l1 l3:aD) (i j:Nat),LS f.p.bS.length (aE x.1) s->
 Ev G1 [aN x,.agg l1,.agg [.bool s.ok],.agg l3,.U ay (s.al.map mg),.agg (cD i j f),.U az u,.U ay n] (0,Li 3 4 5 6 ((pre m x).foldl (jA f.p.bS f.prio) s) f u n)
 |0,x,h,_,_,_,_,_,_,_=>by have:=n7 x.1;omega
 |m+1,x,h,hg,s,l1,l3,i,j,hs=>by
  obtain⟨dq,z3,sC⟩:=hg.rm.gQ;have hp:=n7 x.1;have afI:=Ia x;refine bu agw ?_;rw [ma,b8,ca];refine ao (atV x s _ _ 5 6 (hs.mono hp) (by rw [x7];exact hg.sh.one.lk)) (ao dq ?_);erw [b8,ca];have k:=foldI (l:=cg x) (g:=λs y=>(pre m y).foldl (jA f.p.bS f.prio) s) (I:=λq s=>LS f.p.bS.length (kK ((cg x).drop q)) s) (LF:=λq s N n'=>GY (FU CX EE N) N n' ([iI (ln ((cg x).map bw)),iI (q:Int)]++Li 3 4 5 6 s f u n++[lN (cg x)]))
   (done:=λs=>(0,Li 3 4 5 6 s f u n++[lN (cg x)])) (λs _=>by
     refine bx Vu (aC eJ (ah ?_));rw [b8,ca];rfl) (λq hq s h=>by
     refine LS.fold _ (h.mono ?_);have:=IV m (cg x)[q];rw [kG hq];simp only [kK,fW,nk];omega) (λq hq s r hI jX=>by
   have hm:=eH hq;obtain⟨r1,r2,_⟩:=hg.rm.hR hm;refine bx Vu (bj (ew hq) (aV (ey hq) (aV (EK) ?_)));rw [eT hq,ma,ix hq z3,b8,ca];refine ao (ZP x7 m _ (by omega) (hg.hR hm) s _ _ 5 6 (hI.mono (abD))) ?_;erw [b8,ca];exact jX)
  refine ao (k (jA f.p.bS f.prio s x) (LS.step (hs.mono (by show kK (cg x)+1<=_;omega)) x)).diag (ah ?_);exact aaZ
end
end
end Go.Proofs.YtffabbjfdgmbjaaGreat
namespace Go.ae
def mM{p:Prop}(h:p:=by simp only [mx];omega):p:=h
end Go.ae
namespace Go.Proofs.YtffabbjfdgmbjaaGreat
open Go Go.ae
structure UN where
 u:aH
 n:aH
def xF(al:List bW)(s:UN)(q:Nat):UN:=bif decide (0<(al.getD q []).length)then⟨s.u++[[iI (q:Int),iI 0]],s.n++[[.U ak (ints (al.getD q []))]]⟩else s
def qa(f:FN):US:=f.dH.foldl (λs y=>(pre (aE y.1) y).foldl (jA f.p.bS f.prio) s) ⟨List.replicate f.p.bS.length [],true⟩
def iY(f:FN):UN:=(List.range f.p.bS.length).foldl (xF (qa f).al) ⟨[],[]⟩
def oo(l:bW):Row:=[.U ak (ints l)]
def atj(al:List bW):(al.map mg).map (λr=>r.map ae.AV.qB)=al.map oo:=by
 rw [Ba];refine List.map_congr_left λl _=> ?_;simp [mg,oo,ae.AV.qB]
section
variable {f:FN} {u n:aH} {no np:Nat}
def atU(x7:f.p.bS.length=np)(hg:∀x∈f.dH,Good no np x)(hl:f.dH.length<=mx)(s:US)(hs:LS f.p.bS.length (kK f.dH) s):
 E (λN m=>Di (FU CX EE N) N m [.U bz (f.dH.map bw),iI (ln (f.dH.map bw)),iI 0,.agg [.ptr 3 0 0],.agg [.aa 4],.agg [.bool s.ok],.agg (cD 5 6 f),.U ay (s.al.map mg),.U az u,.U ay n])
  (0,[.agg [.ptr 3 0 0],.agg [.aa 4],.agg [.bool (f.dH.foldl (λs y=>(pre (aE y.1) y).foldl (jA f.p.bS f.prio) s) s).ok],.agg (cD 5 6 f),.U ay ((f.dH.foldl (λs y=>(pre (aE y.1) y).foldl (jA f.p.bS f.prio) s) s).al.map mg),.U az u,.U ay n]):=by
 refine foldI (l:=f.dH) (g:=λs y=>(pre (aE y.1) y).foldl (jA f.p.bS f.prio) s) (I:=λq s=>LS f.p.bS.length (kK (f.dH.drop q)) s)
  (LF:=λq s N m=>Di (FU CX EE N) N m [.U bz (f.dH.map bw),iI (ln (f.dH.map bw)),iI (q:Int),.agg [.ptr 3 0 0],.agg [.aa 4],.agg [.bool s.ok],.agg (cD 5 6 f),.U ay (s.al.map mg),.U az u,.U ay n])
  (done:=λs=>(0,[.agg [.ptr 3 0 0],.agg [.aa 4],.agg [.bool s.ok],.agg (cD 5 6 f),.U ay (s.al.map mg),.U az u,.U ay n]))
  (λs _=> ?_) (λq hq s h=> ?_) (λq hq s r hI jX=> ?_) s hs
 ·refine bx V4 (aC eJ (ah ?_));rw [b8,ca];rfl
 ·refine LS.fold _ (h.mono ?_);have:=IV (aE f.dH[q].1) f.dH[q];rw [kG hq];simp only [kK,fW,nk];omega
 ·have hm:=eH hq;refine bx V4 (bj (ew hq) (aV (ey hq) ?_));rw [eT hq,ma,ix hq hl,b8,ca];refine ao (ZP x7 _ _ (dZ _) (hg _ hm) s _ _ 5 6 (hI.mono (abD))) ?_;erw [b8,ca];exact jX
def usJ(x7:f.p.bS.length=np)(hg:∀x∈f.dH,Good no np x)(hl:f.dH.length<=mx)(s:US)(hs:LS f.p.bS.length (kK f.dH) s):
 E (λN _=>MP (FU CX EE N) N [.agg [.ptr 3 0 0],.agg [.aa 4],.agg [.bool s.ok],.agg (cD 5 6 f),.U ay (s.al.map mg),.U az u,.U ay n])
  (0,[.agg [.ptr 3 0 0],.agg [.aa 4],.agg [.bool (f.dH.foldl (λs y=>(pre (aE y.1) y).foldl (jA f.p.bS f.prio) s) s).ok],.agg (cD 5 6 f),.U ay ((f.dH.foldl (λs y=>(pre (aE y.1) y).foldl (jA f.p.bS f.prio) s) s).al.map mg),.U az u,.U ay n]):=by
 refine cP ah9 ?_;rw [aeb,b8,ca];refine ao (atU x7 hg hl s hs).diag (ah ?_);erw [b8,ca];rfl
def atY(al:List bW)(hl:al.length<=mx)(s:UN)(h0:s.u.length=0∧s.n.length=0):
 E (λN m=>Ar (FU CX EE N) N m [iI (ln (al.map oo)),iI 0,.agg [.ptr 2 0 0],.U ay (al.map oo),.agg (cD 3 4 f),.U az s.u,.U ay s.n])
  (0,[.agg [.ptr 2 0 0],.U ay (al.map oo),.agg (cD 3 4 f),.U az ((List.range al.length).foldl (xF al) s).u,.U ay ((List.range al.length).foldl (xF al) s).n]):=by
 refine foldI (l:=List.range al.length) (g:=xF al) (I:=λq s=>s.u.length<=q∧s.n.length<=q)
  (LF:=λq s N m=>Ar (FU CX EE N) N m [iI (ln (al.map oo)),iI (q:Int),.agg [.ptr 2 0 0],.U ay (al.map oo),.agg (cD 3 4 f),.U az s.u,.U ay s.n])
  (done:=λs=>(0,[.agg [.ptr 2 0 0],.U ay (al.map oo),.agg (cD 3 4 f),.U az s.u,.U ay s.n]))
  (λs _=> ?_) (λq hq s h=> ?_) (λq hq s r hI jX=> ?_) s ⟨by omega,by omega⟩
 ·refine bx V3 (aC (by rw [yC];exact eJ) (ah ?_));rw [b8,ca]
 ·unfold xF;cases decide (0<(al.getD (List.range al.length)[q] []).length)with
  |false=>exact⟨by have:=h.1;show s.u.length<=q+1;omega,by have:=h.2;show s.n.length<=q+1;omega⟩
  |true=>exact⟨by have:=h.1;show(s.u++_).length <=q+1;simp;omega,by have:=h.2;show(s.n++_).length <=q+1;simp;omega⟩
 ·have x6:q<al.length:=by simpa using hq
  refine bx V3 (bj (ew x6) (aV (ey x6) (aV (by simpa using x6) ?_)));have e1:gR (gA (al.map oo) ((q:Int).toNat)) 0=ints al[q]:=by rw [eT x6];rfl
  have e2:al.getD q []=al[q]:=by simp [List.getD,x6]
  rw [e1,fY,ix x6 hl,b8,ca];have e3:(List.range al.length)[q]=q:=by simp
  rw [e3]at jX;unfold xF at jX;rw [e2]at jX;rw [show decide ((0:Int)<((al[q].length :Nat):Int))=decide (0<al[q].length)by simp];simp only [mx]at hl;refine aJ (λh=>aV ?_ (aV ?_ ?_)) λh=> ?_
  ·have:=hI.1;simp;omega
  ·have:=hI.2;simp;omega
  ·rw [h]at jX;exact jX
  ·rw [h]at jX;exact jX
def atT{i j:Nat}(x7:f.p.bS.length=np)(hg:∀x∈f.dH,Good no np x)(hl:f.dH.length<=mx)(pj:f.p.bS.length<=mx)(afI:kK f.dH<=cap):
 Ev Hm [.agg (cD i j f),.U az [],.U ay []] (0,.bool (qa f).ok ::iq 3 4 f (iY f).u (iY f).n):=by
 have hs0:LS f.p.bS.length (kK f.dH) ⟨List.replicate f.p.bS.length [],true⟩:=⟨by simp,λl h=>by
  have:=Eh h;rw [this,lz,wA];exact afI⟩
 have hlen:(qa f).al.length =f.p.bS.length:=by
  have:∀(L:List NB) (s:US),s.al.length=f.p.bS.length->(L.foldl (λs y=>(pre (aE y.1) y).foldl (jA f.p.bS f.prio) s) s).al.length =f.p.bS.length:=by
   have inner:∀(L:List NB) (s:US),s.al.length=f.p.bS.length->(L.foldl (jA f.p.bS f.prio) s).al.length =f.p.bS.length:=by
    intro L
    induction L with
    |nil=>exact λs h=>h
    |cons x L ih=>
     intro s h;rw [nX];refine ih _ ?_;unfold jA;cases x.1.f.kind==20 with
     |false=>exact h
     |true=>exact jh
   intro L
   induction L with
   |nil=>exact λs h=>h
   |cons x L ih=>intro s h;rw [nX];exact ih _ (inner _ _ h)
  exact this f.dH _ (by simp)
 refine bu ajr ?_;rw [af2,b8,ca,fY];simp only [mx]at pj;have e1:List.replicate (((f.p.bS.length:Nat):Int)).toNat ([.sub ak ([])]:Row)=(List.replicate f.p.bS.length ([]:bW)).map mg:=by
  rw [List.map_replicate];rfl
 rw [e1];have hJ:=usJ (u:=[]) (n:=[]) x7 hg hl ⟨List.replicate f.p.bS.length [],true⟩ hs0;refine aV (eR) (ao hJ ?_);have e2:∀o3:aD,gR o3 4=(qa f).al.map mg->(gR o3 4).map (λr=>r.map ae.AV.qB)=(qa f).al.map oo:=λo3 h=>by rw [h];exact atj _
 erw [e2 _ rfl,b8,ca];refine ao (atY (qa f).al (mM) ⟨[],[]⟩ ⟨rfl,rfl⟩).diag (ah ?_);erw [b8,ca];unfold iY;rw [hlen];rfl
end
structure tL(p:PG):Prop where
 ok:p.Ok
 nd:(p.tasks.map λt=>aE t.body).sum <=md
 sh:∀t∈p.tasks,t.body.Sh p.bZ.length p.bS.length
def ZU{α:Type}(g:α->Nat):∀{l:List α} {x:α},x∈l->g x<=(l.map g).sum
 |y::l,x,h=>by
  rw [fW,nk];rcases dA.1 h with rfl|h
  ·omega
  ·have:=ZU g h;omega
def tL.room{p:PG}(h:tL p){t:TK}(ht:t∈p.tasks){n:Nat}(hn:n<=md):Good p.bZ.length p.bS.length (t.body,n):=by
 have h1:aE t.body<=md:=j5 (ZU (λt=>aE t.body) ht) h.nd;refine⟨⟨(h.ok.task t ht).body,h1,?_⟩,h.sh t ht⟩;show n+aE t.body<=c7;simp only [md,c7]at h1 hn⊢;omega
section
variable {no np:Nat} {f:FN}
def Zi:∀{l:List NB} {k:Nat},kK (l.drop k)<=kK l
 | [],k=>by simp
 |x::l,0=>dZ _
 |x::l,k+1=>by
  rw [List.drop_succ_cons];refine j5 Zi ?_;simp only [kK,fW,nk];omega
def arE(hg:Good no np ((eV f.p.tasks f.t).body,f.first)):aE (gD f).e.1 <=aE (eV f.p.tasks f.t).body :=by have:=(IB hg).len;omega
def ax8(hg:Good no np ((eV f.p.tasks f.t).body,f.first))(h:nB f=true):
 (∀x∈(pd f).dH,Good no np x)∧(pd f).dH.length <=mx∧kK (pd f).dH <=md:=by
 have gs:=IB hg;have h1:vF (eV f.p.tasks f.t) (gD f)=true:=by unfold nB at h;exact(IJ.1 h).1
 obtain⟨_,w2⟩:=gs.e.sh.one.wh (Zq h1);obtain⟨bg,bl⟩:=Zp gs.e w2;have hm:aE (eV f.p.tasks f.t).body <=md:=hg.rm.md;have hn:=arE hg;refine⟨λx hx=>bg x (II hx),by show((oB f).drop 1).length <=mx;rw [sZ];have:(oB f).length <=mx:=bl;omega,?_⟩;show kK ((oB f).drop 1)<=md;have h2:kK (oB f)<=aE (gD f).e.1 :=by
  have r1:=Ia (gD f).e;unfold oB Cw;cases(fk (cg (gD f).e) 0).1.f.kind ==3 with
  |false=>show kK (cg (gD f).e)<=_;omega
  |true=>
   show kK (cg (fk (cg (gD f).e) 0))<=_;have aY:0<(cg (gD f).e).length :=by have:=D2 w2;omega
   have r2:=Ia (fk (cg (gD f).e) 0);have r3:=Eo aY;omega
 exact j5 Zi (by omega)
def CS.Ok.fL{s:CS}(h:s.Ok):s.L.length<=mx:=Jm
def stG(hg:Good no np ((eV f.p.tasks f.t).body,f.first)):(pd f).st.length <=mx∧∀x∈(pd f).st,sM no np x.1∧x.1.L.length<=mx∧∀y∈x.1.L,sM no np y:=by
 have gs:=IB hg;have hm:aE (eV f.p.tasks f.t).body <=mx:=Sd hg.rm;refine⟨by show(gD f).st.length <=mx;have:=gs.len;omega,λx hx=> ?_⟩;have g:=gs.st x hx;exact⟨g.sh.one,g.rm.ok.fL,λy hy=>(g.sh.hR (KP hy)).one⟩
end
def f0(p:PG)(t first:Nat):FN:=⟨p,t,first,Lv,[],false,false,Lv,[],0,0,0,0,0,0,0⟩
def FE(f:FN):sN:=f.dH.foldl (lM f.o) ⟨0,f.period⟩
def BC(f:FN):Bool:=(FE f).c ==1&&(decide (1<=(FE f).v)&&decide ((FE f).v <=2147483647))
def rp(f:FN):FN:={f with period:=(FE f).v }
def FF(f:FN):sN:=f.st.foldl (vD f.o) ⟨0,f.lD⟩
def BE(f:FN):Bool:=(FF f).c ==1&&(decide (0<=(FF f).v)&&decide ((FF f).v <=2147483647))
def xl(f:FN):FN:={f with lD:=(FF f).v }
def one(p:PG)(t first:Nat):Int×FN:=
 let f:=f0 p t first
 bif nB f then
  let f1:=pd f
  bif BC f1 then
   let f2:=rp f1
   bif BE f2 then
    let f3:=xl f2
    bif yc f3 then
     bif decide (ua f3<=f3.period)then
      let f4:=pA f3
      bif (qa f4).ok then(0,f4)else(371,f4)
     else(370,f3)
    else(370,f3)
   else(370,f2)
  else(370,f1)
 else(370,f)
def mP(f:FN):Row:=sT (ab NH 0 (cD 3 4 f)) [(61,.U az (iY f).u),(62,.U ay (iY f).n)]
def nz(f:FN):Row:=[.ep 102 (mP f) 0]
def mf(p:PG):List TK->Nat->Nat->List FN->Int×List FN
 | [],_,_,out=>(0,out)
 |x::l,t,first,out=>bif t==0 then mf p l (t+1) (first+aE x.body) out else bif (one p t first).1 ==0 then mf p l (t+1) (first+aE x.body) (out++[(one p t first).2])else((one p t first).1,[])
def Vj(p:PG)(r:Int×List FN):UO:=bif r.1==0 then(1,[.agg (fG p),.U fO (r.2.map nz)])else(0,[iI r.1,.agg (fG p),.U fO []])
def mO(p:PG):ab OD 0 (fG p)=fG p:=rfl
def Kq(t:TK):ab dw 2 (bL t)=aX t.body:=Fe
def ar5(p:PG)(t first:Nat):cD 1 2 (f0 p t first)=[.U bE (gR (fG p) 0),iI (gI (fG p) 1),.U cT (gR (fG p) 2),.U dN (gR (fG p) 3),iI (t:Int),iI (first:Int),.int .u8 0,iI 0,iI 0,iI 0,iI 0,iI 0,.bool false,.bool false,.bool false,.bool false,.bool false,.int .u8 0,.U ax ([]),.U ax ([]),.U aL ([]),.U aL ([]),.U ak [],.U aZ ([]),.U bD ([]),.U bK ([]),.U bP ([]),iI 0,.U bz ([]),.bool false,.bool false,.int .u8 0,iI 0,iI 0,iI 0,iI 0,iI 0,.bool false,.bool false,.bool false,.bool false,.bool false,.int .u8 0,.U ax ([]),.U ax ([]),.U aL ([]),.U aL ([]),.U ak [],.U aZ ([]),.U bD ([]),.U bK ([]),.U bP ([]),iI 0,.U bz ([]),iI 0,iI 0,iI 0,iI 0,iI 0,iI 0,iI 0,.aa 1,.aa 2]:=rfl
end Go.Proofs.YtffabbjfdgmbjaaGreat
namespace Go.ae
def Ff{p:Prop}(h:p:=by
 simp only [h,dj]at hb;exact hb trivial):p:=h
end Go.ae
namespace Go.Proofs.YtffabbjfdgmbjaaGreat
open Go Go.ae
def apW{a b:Nat}(h:a+b<=md):bo ((a:Int)+(b:Int))=((a+b:Nat):Int):=by
 simp only [md]at h;rw [pI (by omega) (by omega)];omega
def axV{p:PG}(hf:tL p){t first:Nat}(ht:t<p.tasks.length)(tW:first<=md){bad:Int->Nat->Nat->Option UO}{good:aD->Nat->Nat->Option UO}{r:UO}
 (hb:(one p t first).1 =370->E (bad 370) r) (gw:(one p t first).1 =371->E (bad 371) r) (hg:(one p t first).1 =0->∀b,E (good (.bool b::iq 3 4 (one p t first).2 (iY (one p t first).2).u (iY (one p t first).2).n)) r):
 E (λN n=>bO (FU CX EE N Aw [.agg (cD 1 2 (f0 p t first)),.U az [],.U ay []]) λ_ o5=>bif !(gB o5 0)then bad 370 N n else bO (FU CX EE N Hg [.agg (sT (ab bm 0 (gC o5 1)) [(61,.aa 1),(62,.aa 2)]),.U az (gR o5 2),.U ay (gR o5 3)]) λ_ o6=>bif !(gB o6 0)then bad 370 N n else bO (FU CX EE N Hh [.agg (sT (ab bm 0 (gC o6 1)) [(61,.aa 1),(62,.aa 2)]),.U az (gR o6 2),.U ay (gR o6 3)]) λ_ o7=>bif !(gB o7 0)then bad 370 N n else bO (FU CX EE N Hi [.agg (sT (ab bm 0 (gC o7 1)) [(61,.aa 1),(62,.aa 2)]),.U az (gR o7 2),.U ay (gR o7 3)]) λ_ o8=>bif !(gB o8 0)then bad 370 N n else bO (FU CX EE N Hb [.agg (sT (ab bm 0 (gC o8 1)) [(61,.aa 1),(62,.aa 2)]),.U az (gR o8 2),.U ay (gR o8 3)]) λ_ o9=>bif !(gB o9 0)then bad 370 N n else bO (FU CX EE N Hm [.agg (sT (ab bm 0 (gC o9 1)) [(61,.aa 1),(62,.aa 2)]),.U az (gR o9 2),.U ay (gR o9 3)]) λ_ cx=>bif !(gB cx 0)then bad 371 N n else good cx N n) r:=by
 have hm:=Y6 ht;have g0:Good p.bZ.length p.bS.length ((eV p.tasks t).body,first):=hf.room hm tW;have zY:∀x∈p.tasks,Room (x.body,0):=λx hx=>(hf.room hx (n:=0) (by simp)).rm;obtain⟨f',k1,k2⟩:=asM (np:=p.bS.length) (f:=f0 p t first) (i:=1) (j:=2) (u:=[]) (n:=[]) ht g0;refine ao k1 ?_;unfold one at hb gw hg;refine aJ (c:= !nB (f0 p t first)) (λh=> ?_) λh=> ?_
 ·have h:nB (f0 p t first)=false:=by simpa using h
  exact Ff
 have h:nB (f0 p t first)=true:=jh;rw [k2 h];obtain⟨j1,j2,j3⟩:=ax8 g0 h;obtain⟨s1,s2⟩:=stG (f:=f0 p t first) g0;simp only [h,da]at hb gw hg;erw [b8,ca];have kp:=axO (f:=pd (f0 p t first)) (i:=1) (j:=2) (u:=[]) (n:=[]) j2 λx hx=>(j1 x hx).sh.one;refine ao kp ?_;have hob:(pd (f0 p t first)).p =p:=rfl;have ht1:(pd (f0 p t first)).t =t:=rfl;generalize pd (f0 p t first)=f1 at hb gw hg j1 j2 j3 s1 s2 hob ht1⊢;refine aJ (c:= !BC f1) (λh=> ?_) λh=> ?_
 ·have h:BC f1=false:=by simpa using h
  exact Ff
 have h:BC f1=true:=jh;simp only [h,da]at hb gw hg;erw [b8,ca];have ko:=axY (np:=p.bS.length) (f:=rp f1) (i:=1) (j:=2) (u:=[]) (n:=[]) s1 s2;refine ao ko ?_;refine aJ (c:= !BE (rp f1)) (λh=> ?_) λh=> ?_
 ·have h:BE (rp f1)=false:=by simpa using h
  exact Ff
 have h:BE (rp f1)=true:=jh;simp only [h,da]at hb gw hg;erw [b8,ca];have tS:(xl (rp f1)).p =p:=hob;have ht3:(xl (rp f1)).t =t:=ht1;have LM:(xl (rp f1)).dH =f1.dH:=rfl;have ka:=asi (f:=xl (rp f1)) (i:=1) (j:=2) (u:=[]) (n:=[]) (by rw [tS];exact hf.ok.tasks) (by rw [tS];exact zY) (by rw [tS];exact hf.ok.bZ) (by rw [tS];exact hf.ok.obj);refine ao ka ?_;generalize xl (rp f1)=f3 at hb gw hg tS ht3 LM⊢;refine aJ (c:= !yc f3) (λh=> ?_) λh=> ?_
 ·have h:yc f3=false:=by simpa using h
  exact Ff
 have h:yc f3=true:=jh;simp only [h,da]at hb gw hg;erw [b8,ca];have kd:=atz (f:=f3) (i:=1) (j:=2) (u:=[]) (n:=[]) (by rw [ht3,tS];exact ht);refine ao kd ?_;refine aJ (c:= !decide (ua f3<=f3.period)) (λh=> ?_) λh=> ?_
 ·have h:decide (ua f3<=f3.period)=false:=by simpa using h
  exact Ff
 have h:decide (ua f3<=f3.period)=true:=jh;simp only [h,da]at hb gw hg;erw [b8,ca];have CI:(pA f3).p =p:=tS;have UM:(pA f3).dH =f1.dH:=LM;have ku:=atT (f:=pA f3) (i:=1) (j:=2) (no:=p.bZ.length) (np:=p.bS.length) (by rw [CI]) (by rw [UM];exact j1) (by rw [UM];exact j2) (by rw [CI];exact hf.ok.bS) (by rw [UM];refine j5 j3 ?_;simp only [md,cap];omega);refine ao ku ?_;refine aJ (c:= !(qa (pA f3)).ok) (λh=> ?_) λh=> ?_
 ·have h:(qa (pA f3)).ok =false:=by simpa using h
  simp only [h,dj]at gw;exact gw trivial
 have h:(qa (pA f3)).ok =true:=jh;simp only [h,da]at hg;have:=hg trivial (qa (pA f3)).ok;exact this
def ar3{p:PG}(hf:tL p):E (λN m=>uh (FU CX EE N) N m [iI 0,.U cT (p.tasks.map bL),iI (ln (p.tasks.map bL)),iI 0,.agg (fG p),.U fO []]) (Vj p (mf p p.tasks 0 0 [])):=by
 have CC:=hf.ok.tasks;have k:=gy (m:=p.tasks.length) (P:=λi=>∀(first:Nat) (out:List FN),first+((p.tasks.drop i).map λt=>aE t.body).sum <=md->out.length<=i->
  E (λN m=>uh (FU CX EE N) N m [iI (first:Int),.U cT (p.tasks.map bL),iI (ln (p.tasks.map bL)),iI (i:Int),.agg (fG p),.U fO (out.map nz)]) (Vj p (mf p (p.tasks.drop i) i first out)))
  (λfirst out _ _=>by
    rw [nW];refine bx WD (aC eJ (ah ?_));rw [mO];rfl)
  λi hi ih first out hb ho=>by
   have hm:=eH hi;rw [kG hi,fW,nk]at hb;have sC:aE p.tasks[i].body <=c7:=by simp only [md,c7]at hb⊢;omega
   have kn:=aaO p.tasks[i].body (hf.ok.task _ hm).body sC;have e1:bo ((first:Int)+(aE p.tasks[i].body :Int))=((first+aE p.tasks[i].body :Nat):Int):=apW (by omega);refine bx WD (bj (ew hi) (aV (ey hi) ?_));rw [eT hi,Kq,mO,ix hi CC,zi,kG hi];unfold mf;refine aJ (c:=decide (0<i)) (λh=> ?_) λh=> ?_
   ·have hz:(i==0)=false:=by simp at h⊢;omega
    rw [hz];rw [<-ar5];have key:=λr=>axV hf hi (r:=r) (first:=first) (by omega) (bad:=λe _ _=>some (0,[iI e,.agg (fG p),.U fO []])) (good:=λcx N n=>ae.aB (decide (((out.map nz).length +1)*8<=140737488355328)) (bO (FU CX EE N qT [aS p.tasks[i].body]) λ_ cr=>uh (FU CX EE N) N n [iI (bo ((first:Int)+gI cr 0)),.U cT (p.tasks.map bL),iI (ln (p.tasks.map bL)),iI ((i+1:Nat):Int),.agg (fG p),.U fO ((out.map nz)++[[.ep 102 (sT (ab NH 0 (gC cx 1)) [(61,.U az (gR cx 2)),(62,.U ay (gR cx 3))]) 0]])]));refine key _ (λh1=> ?_) (λh1=> ?_) λh1 b=> ?_
    ·rw [h1];exact ah rfl
    ·rw [h1];exact ah rfl
    ·rw [h1];simp only [mx]at CC;refine aV (by rw [fI];simp;omega) (ao kn ?_);have:=ih (first+aE p.tasks[i].body) (out++[(one p i first).2]) (by omega) (by rw [fC];simp;omega);rw [lX]at this;show E (λN n=>uh (FU CX EE N) N n [iI (bo ((first:Int)+(aE p.tasks[i].body :Int))),_,_,_,_,_]) _;rw [e1];exact this
   ·have hz:(i==0)=true:=by simp at h⊢;omega
    rw [hz];refine ao kn ?_;show E (λN n=>uh (FU CX EE N) N n [iI (bo ((first:Int)+(aE p.tasks[i].body :Int))),_,_,_,_,_]) _;rw [e1];exact ih _ out (by omega) (by omega)
 exact k 0 [] (by simpa using hf.nd) (by simp)
end Go.Proofs.YtffabbjfdgmbjaaGreat
namespace Go.ae
def Re{p:Prop}(h:p:=by rw [h]at ef;rw [ef];exact ah rfl):p:=h
def aaY{p:Prop}(h:p:=by have:=aqA p;have:=hf.ok.tasks;omega):p:=h
end Go.ae
namespace Go.ae
def Iq:=@List.take_length
def AY:=@List.take_succ_eq_append_getElem
end Go.ae
namespace Go.Proofs.YtffabbjfdgmbjaaGreat
open Go Go.ae
section
variable{p:PG}
def kv(p:PG):Int×List FN:=
 let s:=lH false ((eV p.tasks 0).body,0)
 bif s.bd then(370,[])else bif !(s.st.all λx=>fT false x.1)then(370,[])else bif !fT true s.e.1 then(370,[])else bif p.tasks.length==1 then(370,[])else mf p p.tasks 0 0 []
def P7(p:PG):∀(l:List TK) (t first:Nat) (out:List FN),(mf p l t first out).1 ≠0->(mf p l t first out).2 =[]
 | [],_,_,_,h=>absurd rfl h
 |x::l,t,first,out,h=>by
  unfold mf at h⊢;cases h1:t==0 with
  |true=>rw [h1]at h;exact P7 p l _ _ _ h
  |false=>
   rw [h1]at h;cases h2:(one p t first).1 ==0 with
   |true=>rw [h2]at h;exact P7 p l _ _ _ h
   |false=>rfl
def aed(hf:tL p)(h0:0<p.tasks.length)(hM:Ev um [.agg (fG p)] (0,[.bool true])):Ev HT [.agg (fG p)] (0,[iI (kv p).1,.U fO ((kv p).2.map nz)]):=by
 have g0:=hf.room (Y6 h0) (n:=0) (by simp);have gs:=YE (q:=false) g0;have hm:aE (eV p.tasks 0).body <=mx:=Sd g0.rm;have gl:(lH false ((eV p.tasks 0).body,0)).st.length +aE (lH false ((eV p.tasks 0).body,0)).e.1 <=aE (eV p.tasks 0).body :=gs.len;refine bu amm ?_;rw [mO];refine ao hM (aC rfl (aV ?_ ?_))
 ·exact oH (f:=bL) (m:=0) h0
 rw [show gR (fG p) 2=p.tasks.map bL from rfl,Sw h0];erw [RT _ 0];refine ao (aaj (q:=false) g0.rm g0.sh) ?_;have ef:kv p=bif (lH false ((eV p.tasks 0).body,0)).bd then(370,[])else bif !((lH false ((eV p.tasks 0).body,0)).st.all λx=>fT false x.1)then(370,[])else bif !fT true (lH false ((eV p.tasks 0).body,0)).e.1 then(370,[])else bif p.tasks.length==1 then(370,[])else mf p p.tasks 0 0 []:=rfl;erw [Ez];refine aJ (c:=(lH false ((eV p.tasks 0).body,0)).bd) (λh=> ?_) λh=> ?_
 ·exact Re
 rw [h]at ef;refine ao (Q1 false (l:=(lH false ((eV p.tasks 0).body,0)).st) (by omega) λx hx=>⟨(gs.st x hx).rm.ok,(gs.st x hx).rm.md,(gs.st x hx).rm.rm⟩) ?_;refine aJ (c:= !(lH false ((eV p.tasks 0).body,0)).st.all λx=>fT false x.1) (λh=> ?_) λh=> ?_
 ·exact Re
 rw [h]at ef;erw [QU];refine ao (Z1 (lH false ((eV p.tasks 0).body,0)).e.1 gs.e.rm.ok (lH false ((eV p.tasks 0).body,0)).e.2 true gs.e.rm.md gs.e.rm.rm) ?_;refine aJ (c:= !fT true (lH false ((eV p.tasks 0).body,0)).e.1) (λh=> ?_) λh=> ?_
 ·exact Re
 rw [h]at ef;refine aJ (c:=ln (p.tasks.map bL)==1) (λh=> ?_) λh=> ?_
 ·have h1:(p.tasks.length==1)=true:=by rw [fY]at h;simp at h⊢;omega
  rw [h1]at ef;rw [ef];exact ah rfl
 ·have h1:(p.tasks.length==1)=false:=by rw [fY]at h;simp at h⊢;omega
  rw [h1]at ef;have ef:kv p=mf p p.tasks 0 0 []:=ef;rw [ef];refine ao (ar3 hf).diag ?_;have hb:=P7 p p.tasks 0 0 [];generalize mf p p.tasks 0 0 []=r at hb⊢;obtain⟨c,l⟩:=r;unfold Vj;cases hc:c==0 with
  |true=>
   refine aC rfl (ah ?_);have:c=0:=eq_of_beq hc;exact jg
  |false=>
   refine bj rfl (ah ?_);have:l=[]:=hb (by intro h;have:c=0:=h;rw [this]at hc;cases hc);exact jg
def nI(f:FN):Row:=[iI f.rt,iI f.prio,iI f.period,iI f.dead,iI f.lD,iI f.cost,.U az (iY f).u]
def arh(f:FN):ab DL 55 (mP f)=nI f:=by
 unfold mP nI;generalize iY f=s;exact nA
def P6(p:PG):∀(l:List TK) (t first:Nat) (out:List FN),(mf p l t first out).2.length <=l.length+out.length
 | [],_,_,out=>by simp [mf]
 |x::l,t,first,out=>by
  unfold mf;cases h1:t==0 with
  |true=>have:=P6 p l (t+1) (first+aE x.body) out;simp only [da,gE];omega
  |false=>
   cases h2:(one p t first).1 ==0 with
   |true=>have:=P6 p l (t+1) (first+aE x.body) (out++[(one p t first).2]);simp only [da,dj,gE,fC,lz]at this⊢;omega
   |false=>simp
def I4{c:Bool}{a:Int×List FN}{x:Int}{n:Nat}(h:a.2.length<=n):(bif c then(x,[])else a).2.length <=n:=by
 cases c
 ·exact h
 ·exact dX _
def aqA(p:PG):(kv p).2.length <=p.tasks.length:=I4 (I4 (I4 (I4 (P6 p p.tasks 0 0 []))))
def aqN{l:List FN}(hl:l.length<=mx):E (λN m=>AB (FU CX EE N) N m [iI (ln (l.map nz)),iI 0,.U fO (l.map nz),.U dY []]) (0,[.U fO (l.map nz),.U dY (l.map nI)]):=by
 have k:=gy (m:=l.length) (P:=λi=>E (λN m=>AB (FU CX EE N) N m [iI (ln (l.map nz)),iI (i:Int),.U fO (l.map nz),.U dY ((l.take i).map nI)]) (0,[.U fO (l.map nz),.U dY (l.map nI)]))
  (by rw [Iq];exact bx WG (aC eJ (ah rfl))) λi hi ih=>by
    refine bx WG (bj (ew hi) (aV (ey hi) (aV (yL) ?_)));rw [eT hi,ix hi hl];show E (λN m=>ae.aB _ (AB (FU CX EE N) N m [_,_,_,.U dY (((l.take i).map nI)++[ab DL 55 (mP l[i])])])) _;rw [arh];refine aV (by simp only [mx]at hl;simp;omega) ?_;rw [show(l.take i).map nI++[nI l[i]]=(l.take (i+1)).map nI by rw [AY hi,lX];rfl];exact ih
 exact k
def RN(hf:tL p)(h0:0<p.tasks.length)(hM:Ev um [.agg (fG p)] (0,[.bool true])):Ev vX [.agg (fG p)] (0,[iI (kv p).1,.U dY ((kv p).2.map nI)]):=by
 refine bu al3 ?_;rw [mO];exact ao (aed hf h0 hM) (ao (aqN (aaY)).diag (ah rfl))
end
end Go.Proofs.YtffabbjfdgmbjaaGreat
namespace Go.ae
def IN:=@List.flatMap_nil
end Go.ae
namespace Go.Proofs.YtffabbjfdgmbjaaGreat
open Go Go.ae
section
variable{p:PG}
abbrev Cr(f:FN)(k:Nat):Row:=[iI (f.t:Int),iI (k:Int),.U ak (gR (gA (iY f).n k) 0)]
def rG(f:FN):aH:=[iI (f.t:Int),iI (-1),.U ak [[iI (f.dl.2:Int)]]]::(List.range (iY f).n.length).map (Cr f)
def afl(f:FN):gI (mP f) 4=f.t:=by
 unfold mP;generalize iY f=s;exact nA
def asC(f:FN):gI (mP f) 52=f.dl.2:=by
 unfold mP;generalize iY f=s;exact nA
def asB(f:FN):gR (mP f) 62=(iY f).n :=by
 unfold mP;generalize iY f=s;exact nA
def axJ(f:FN)(a:aH)(hh:a.length+(iY f).n.length <=md):E (λN m=>yf (FU CX EE N) N m [.ep 102 (mP f) 0,.U ay (iY f).n,iI (ln (iY f).n),iI 0,.U dM a]) (0,[.U dM (a++(List.range (iY f).n.length).map (Cr f))]):=by
 have k:=foldI (l:=List.range (iY f).n.length) (g:=λa k=>a++[Cr f k]) (I:=λq a=>a.length+((iY f).n.length - q)<=md)
  (LF:=λq a N m=>yf (FU CX EE N) N m [.ep 102 (mP f) 0,.U ay (iY f).n,iI (ln (iY f).n),iI (q:Int),.U dM a])
  (done:=λa=>(0,[.U dM a])) (λa _=>bx Wq (aC (by rw [yC];simp [ln]) (ah rfl)))
  (λq hq a h=>by have hq:q<(iY f).n.length :=(by simpa using hq);simp only [fC,gE,lz];omega) (λq hq a r h hr=>by
    have hq:q<(iY f).n.length :=EK;refine bx Wq (bj (by simpa [ln]using hq) (aV (oc hq) ?_));show E (λN m=>ae.aB _ (yf (FU CX EE N) N m [_,_,_,_,.U dM (a++[[iI (gI (mP f) 4),_,_]])])) _;rw [afl,ix hq (by simp only [md,mx]at hh⊢;omega)];refine aV (by simp only [md]at h;simp;omega) ?_;simp only [List.getElem_range]at hr;exact hr) a (by omega)
 have e:∀(l:cp) (a:aH),l.foldl (λa k=>a++[Cr f k]) a=a++l.map (Cr f):=by
  intro l
  induction l with
  |nil=>intro a;simp
  |cons x l ih=>intro a;rw [nX,ih];simp
 rw [e]at k;exact k
def aqg{l:List FN}(hl:l.length<=mx)(hb:(l.flatMap rG).length <=md):E (λN m=>AA (FU CX EE N) N m [iI (ln (l.map nz)),iI 0,.U fO (l.map nz),.U dM []]) (0,[.U fO (l.map nz),.U dM (l.flatMap rG)]):=by
 have k:=gy (m:=l.length) (P:=λi=>∀a:aH,a.length+((l.drop i).flatMap rG).length <=md->E (λN m=>AA (FU CX EE N) N m [iI (ln (l.map nz)),iI (i:Int),.U fO (l.map nz),.U dM a]) (0,[.U fO (l.map nz),.U dM (a++(l.drop i).flatMap rG)]))
  (λa _=>by
    rw [nW,IN,mv];exact bx WE (aC eJ (ah rfl))) λi hi ih a h=>by
    rw [kG hi,kZ,fC]at h;have hp:(rG l[i]).length =(iY l[i]).n.length +1:=by simp [rG]
    refine bx WE (bj (ew hi) (aV (ey hi) (aV (yL) ?_)));rw [eT hi,ix hi hl];show E (λN m=>ae.aB (decide ((a.length+(_:aH).length)*40<=140737488355328)) (bO (yf (FU CX EE N) N N [.ep 102 (mP l[i]) 0,.U ay (gR (mP l[i]) 62),iI (ln (gR (mP l[i]) 62)),iI 0,.U dM (a++[[iI (gI (mP l[i]) 4),iI (-1),.U ak [[iI (gI (mP l[i]) 52)]]]])]) λ_ o2=>AA (FU CX EE N) N m [_,_,_,.U dM (gR o2 0)])) _;rw [afl,asC,asB];have k1:=axJ l[i] (a++[[iI (l[i].t :Int),iI (-1),.U ak [[iI (l[i].dl.2 :Int)]]]]) (by rw [fC];simp only [gE,lz];omega);refine aV (by simp only [md]at h;simp;omega) (ao k1.diag ?_);have:=ih (a++rG l[i]) (by rw [fC];omega);rw [kG hi,kZ,<-mu];unfold rG at this⊢;rw [show a++[[iI (l[i].t :Int),iI (-1),.U ak [[iI (l[i].dl.2 :Int)]]]]++(List.range (iY l[i]).n.length).map (Cr l[i])=a++rG l[i]by rw [mu];rfl];exact this
 have:=k [] (Jd);exact qo
def aaK(hf:tL p)(h0:0<p.tasks.length)(hM:Ev um [.agg (fG p)] (0,[.bool true]))(hb:((kv p).2.flatMap rG).length <=md):Ev DE [.agg (fG p)] (0,[iI (kv p).1,.U dM ((kv p).2.flatMap rG)]):=by
 refine bu al2 ?_;rw [mO];exact ao (aed hf h0 hM) (ao (aqg (aaY) hb).diag (ah rfl))
def ar4(hf:tL p)(h0:0<p.tasks.length)(hM:Ev um [.agg (fG p)] (0,[.bool true]))(e:Int)(he:kv p=(e,[])):Ev qk [.agg (fG p),iI e] (0,[.bool true]):=by
 refine bu anM ?_;rw [mO];have k1:=RN hf h0 hM;have k2:=aaK hf h0 hM (by rw [he];exact dX _);rw [he]at k1 k2;refine ao k1 (ao k2 (bj rfl (bj ?_ (ah ?_))))
 ·show(e==e)=true;simp
 ·show((0,[.bool (e==e)]):UO)=_;rw [show(e==e)=true by simp]
end
end Go.Proofs.YtffabbjfdgmbjaaGreat
namespace Go.ae
def Rb{p:Prop}(h:p:=by rw [hw];simpa using c1):p:=h
end Go.ae
namespace Go.ae
def wz:=@Bool.and_false
def Qd:=@Bool.eq_iff_iff
end Go.ae
namespace Go.Proofs.YtffabbjfdgmbjaaGreat.C
open Go Go.ae
section
variable{e:CE}{i:Int}{l:List OB}
abbrev ia(l:List OB):aH:=l.map fM
def Uc:OB:=⟨0,0,0,false,[]⟩
def iw(l:List OB)(i:Int):OB:=l.getD i.toNat Uc
def Fk(h:ib i l.length=true):gA (ia l) i.toNat=fM (iw l i):=by
 simp only [ib,bc,fr]at h;have:i.toNat<l.length:=by omega
 rw [Br this];simp [iw,this]
def Sf:ib i (ia l).length =ib i l.length:=by simp
def adZ{n:Nat}(h0:decide (0<=i)=true)(h1:decide (i<(n:Int))=true):ib i n=true:=by
 unfold ib;rw [h0,h1];rfl
def fY{α:Type}(f:α->Row)(l:List α):ln (l.map f)=(l.length:Int):=by simp [ln]
def hZ(l:List OB)(o off:Int):Bool:=bif decide (0<=o)then bif decide (o<(l.length:Int))then bif decide (0<=off)then decide (off<(iw l o).size)else false else false else false
def acE{en o off:Int}:Ev Dv [.agg [.U bE (ia l),iI en],iI o,iI off] (0,[.bool (hZ l o off)]):=by
 refine bu akJ ?_;refine aJ (λh1=> ?_) λh1=>ah (by simp only [hZ,h1,dj]);refine aJ (c:=decide (o<ln (ia l))) (λh2=> ?_) λh2=>ah (by rw [fY]at h2;simp only [hZ,h1,h2,dj,da]);rw [fY]at h2;refine aJ (λh3=> ?_) λh3=>ah (by simp only [hZ,h1,h2,h3,dj,da]);have hi:=adZ h1 h2;refine aV (by rw [show gR [AV.U bE (ia l),iI en] 0=ia l from rfl,Sf];exact hi) (ah ?_);rw [show gR [AV.U bE (ia l),iI en] 0=ia l from rfl,Fk hi];simp only [hZ,h1,h2,h3,da];rfl
mutual
def pb:CE->Nat
 | .mk _ _ _ _ _ _ _ _ l=>pW l+1
def pW:List CE->Nat
 | []=>0
 |e::es=>pb e+pW es
end
mutual
def tZ:CE->Nat
 | .mk _ _ _ _ _ _ _ _ l=>sj l+1
def sj:List CE->Nat
 | []=>0
 |e::es=>max (tZ e) (sj es)
end
def QS(e:CE):pb e=pW e.L+1:=by cases e;rfl
def RK(e:CE):tZ e=sj e.L+1:=by cases e;rfl
def Qt(e:CE):1<=pb e:=by rw [QS];omega
def _root_.Go.Proofs.YtffabbjfdgmbjaaGreat.CE.Ok.len(h:e.Ok):e.L.length<=mx:=Jm
def _root_.Go.Proofs.YtffabbjfdgmbjaaGreat.CE.Ok.hR{y:CE}(h:e.Ok)(hy:y∈e.L):y.Ok:=by cases h with|mk _ _ h=>exact h y hy
def BP{l:List CE}{i:Nat}(h:i<l.length):ab js 0 (gA (l.map bq) ((i:Int).toNat))=bq l[i]:=by rw [eT h,dx]
def aqY:∀(e:CE),e.Ok->∀(d n:Int),0<=d->d<=64->0<=n->n<=1000->
 ∃n',Ev DQ [.agg (bq e),iI d,.agg [iI n]] (0,[.bool (decide ((pb e:Int)<=n)&&decide (d+tZ e<=64)),.agg [iI n']])∧((decide ((pb e:Int)<=n)&&decide (d+tZ e<=64))=true->n'=n- pb e):=by
 refine CE.ind λe ih aQ d n hd bY hn hn'=> ?_;have hw:bo (n- 1)=n- 1:=pI (by omega) (by omega)
 by_cases c1:n- 1<0
 ·refine⟨bo (n- 1),bu Oy (bj (c:=decide (bo (n- 1)<0)) (Rb) (ah (o:=(0,[.bool false,.agg [iI (bo (n- 1))]])) ?_)),λh=> ?_⟩
  ·have:decide ((pb e:Int)<=n)=false:=by have:=Qt e;simp;omega
   exact jg
  ·have:=Qt e;simp at h;omega
 by_cases c2:64<=d
 ·refine⟨bo (n- 1),bu Oy (aC (c:=decide (bo (n- 1)<0)) (Rb) (bj (by simpa using c2) (ah (o:=(0,[.bool false,.agg [iI (bo (n- 1))]])) ?_))),λh=> ?_⟩
  ·have:decide (d+(tZ e:Int)<=64)=false:=by rw [RK];simp;omega
   rw [this,wz]
  ·rw [RK]at h;simp at h;omega
 have tX:bo (d+1)=d+1:=pI (by omega) (by omega);have h:=gy (m:=e.L.length) (P:=λi=>∀n:Int,0<=n->n<=1000->∃n',
  E (λN m=>DA (FU CX EE N) N m [iI d,.U ax (e.L.map bq),iI (ln (e.L.map bq)),iI (i:Int),.agg [iI n]])
   (bif decide ((pW (e.L.drop i):Int)<=n)&&decide (d+1+sj (e.L.drop i)<=64)then(1,[.agg [iI (n- pW (e.L.drop i))]])else(0,[.bool false,.agg [iI n']])))
  (λn h0 h1=>⟨0,bx NR (aC eJ (ah (by
    rw [nW];have:(decide (((pW []:Nat):Int)<=n)&&decide (d+1+((sj []:Nat):Int)<=64))=true:=by rw [bc,fr,fr];simp only [pW,sj];omega
    rw [this];simp [pW];rfl)))⟩)
  λi hi fm n h0 h1=>by
   obtain⟨n',hk,gb⟩:=ih e.L[i] (eH hi) (aQ.hR (eH hi)) (d+1) n (by omega) (by omega) h0 h1;rw [kG hi];generalize hA:pW (e.L[i]::e.L.drop (i+1))=A;generalize hB:sj (e.L[i]::e.L.drop (i+1))=B;have hA:A=pb e.L[i]+pW (e.L.drop (i+1)):=hA.symm;have hB:B=max (tZ e.L[i]) (sj (e.L.drop (i+1))):=hB.symm;cases hb:(decide ((pb e.L[i]:Int)<=n)&&decide (d+1+tZ e.L[i]<=64))with
   |false=>
    rw [hb]at hk;refine⟨n',bx NR<|bj (ew hi)<|aV (ey hi) ?_⟩;rw [BP hi,tX];refine ao hk (bj rfl (ah ?_));have:(decide ((A:Int)<=n)&&decide (d+1+(B:Int)<=64))=false:=by
     rw [Bool.eq_false_iff]at hb⊢;intro h;apply hb;simp at h⊢;omega
    exact jg
   |true=>
    rw [hb]at hk;have:=gb hb;subst this;simp only [bc,fr]at hb;obtain⟨n2,h2⟩:=fm (n- pb e.L[i]) (by omega) (by have:=Qt e.L[i];omega);refine⟨n2,bx NR<|bj (ew hi)<|aV (ey hi) ?_⟩;rw [BP hi,tX,ix hi aQ.len];refine ao hk (aC rfl (E.to h2 ?_));have:(decide ((pW (List.drop (i+1) e.L):Int)<=n- pb e.L[i])&&decide (d+1+(sj (List.drop (i+1) e.L):Int)<=64))=(decide ((A:Int)<=n)&&decide (d+1+(B:Int)<=64)):=by
     rw [Qd];simp;omega
    rw [this,show n-(pb e.L[i]:Int)-(pW (List.drop (i+1) e.L):Int)=n-(A:Int)by omega]
 obtain⟨n',h⟩:=h (n- 1) (by omega) (by omega);rw [uB]at h;have hq:(decide ((pb e:Int)<=n)&&decide (d+tZ e<=64))=(decide ((pW e.L:Int)<=n- 1)&&decide (d+1+sj e.L<=64)):=by
  rw [QS,RK,Qd];simp;omega
 rw [hq];have go:∀o,E (λN m=>DA (FU CX EE N) N m [iI d,.U ax (e.L.map bq),iI (ln (e.L.map bq)),iI ((0:Nat):Int),.agg [iI (n- 1)]]) o->∀r,E (λN m=>bif Nat.beq o.1 0 then some (0,[.bool (gB o.2 0),.agg [iI (gI (gC o.2 1) 0)]])else some (0,[.bool true,.agg [iI (gI (gC o.2 0) 0)]])) r->Ev DQ [.agg (bq e),iI d,.agg [iI n]] r:=λo ho r hr=>by
  refine bu Oy (aC (c:=decide (bo (n- 1)<0)) (Rb) (aC (by simpa using c2) ?_));rw [xt];rw [<-hw]at ho;exact ao ho.diag hr
 cases hb:(decide ((pW e.L:Int)<=n- 1)&&decide (d+1+sj e.L<=64))with
 |true=>
  rw [hb]at h;exact⟨_,go _ h _ (ah rfl),λ_=>by rw [QS];show(n- 1- _:Int)=_;omega⟩
 |false=>
  rw [hb]at h;exact⟨_,go _ h _ (ah rfl),λh=>by cases h⟩
end
def Lp(e:CE):Bool:=decide ((pb e:Int)<=256)&&decide ((tZ e:Int)<=64)
def atX(s:SO):ab yk 0 (gF s)=gF s:=rfl
def Kp(s:OB):ab OT 0 (fM s)=fM s:=rfl
def Fz(s:SO):Bool:=bif !s.ptr then bif decide (0<=s.lo)then decide (s.hi<=1)else false else false
def atZ(s:SO):Ev HK [.agg (gF s)] (0,[.bool (Fz s)]):=by
 refine bu ak7 ?_;refine aJ (c:= !s.ptr) (λh1=>aJ (c:=decide (0<=s.lo)) (λh2=>ah ?_) λh2=>ah ?_) λh1=>ah ?_<;>simp only [Fz,h1,da,dj]<;>(try simp only [h2,da,dj])<;>rfl
def vr(s:SO)(o:OB):Bool:=bif o.ptr then bif s.null then true else bif s.ptr then s.set.all (gQ o.set)else false else bif !s.ptr then bif decide (o.lo<=s.lo)then decide (s.hi<=o.hi)else false else false
def ayQ{s:SO}{o:OB}(ho:o.ptr=false):Ev NY [.agg (gF s),.agg (fM o)] (0,[.bool (vr s o)]):=by
 refine bu alz (aC (c:=o.ptr) ho ?_);exact aJ (c:= !s.ptr) (λh2=>aJ (c:=decide (o.lo<=s.lo)) (λh3=>ah (by simp only [vr,ho,h2,h3,da,dj];rfl)) λh3=>ah (by simp only [vr,ho,h2,h3,da,dj])) λh2=>ah (by simp only [vr,ho,h2,dj])
section
variable{a b:Int}
def kN(k:Int):Bool:=bif k==1 then true else bif k==11 then true else k==14
def kT(k:Int):Bool:=bif k==6 then true else bif k==7 then true else k==10
def iD(e:CE):CE×Int:=
 bif kN e.kind then(.mk e.kind 0 e.N 0 0 0 0 0 [],0)
 else bif e.kind==2 then(.mk e.kind 0 0 e.O e.off 0 0 0 [],0)
 else bif e.kind==3 then(.mk e.kind 0 0 e.O e.off e.len 0 0 [],1)
 else bif e.kind==4 then(.mk e.kind e.op 0 0 0 0 0 0 [],1)
 else bif e.kind==5 then(.mk e.kind e.op 0 0 0 0 0 0 [],2)
 else bif kT e.kind then(.mk e.kind 0 0 0 0 0 0 0 [],2)
 else bif e.kind==8 then(.mk e.kind 0 0 0 0 0 0 0 [],3)
 else bif e.kind==9 then(.mk e.kind 0 0 0 0 0 e.lo e.hi [],1)
 else bif e.kind==12 then(.mk e.kind 0 0 e.O 0 0 0 0 [],0)
 else bif e.kind==13 then(.mk e.kind 0 0 0 0 0 0 0 [],1)
 else(.mk e.kind 0 0 0 0 0 0 0 [],-1)
def kNC(k:Int):E (λN _=>NU (FU CX EE N) N [.int .u8 k]) (0,[.bool (kN k)]):=
 cP akZ (aJ (λh1=>ah (by simp only [kN,h1,da])) λh1=>aJ (λh2=>ah (by simp only [kN,h1,h2,da,dj])) λh2=>ah (by simp only [kN,h1,h2,dj]))
def kTC(k:Int):E (λN _=>Nv (FU CX EE N) N [.int .u8 k]) (0,[.bool (kT k)]):=
 cP ajT (aJ (λh1=>ah (by simp only [kT,h1,da])) λh1=>aJ (λh2=>ah (by simp only [kT,h1,h2,da,dj])) λh2=>ah (by simp only [kT,h1,h2,dj]))
def LZ(e:CE):Ev ON [.agg (bq e)] (0,[.agg (bq (iD e).1),iI (iD e).2]):=by
 rw [I1 e];refine bu anj (ao (kNC e.kind) (aJ (c:=kN e.kind) (λh1=> ?_) λh1=>aJ (c:=e.kind==2) (λh2=> ?_) λh2=>aJ (c:=e.kind==3) (λh3=> ?_) λh3=>aJ (c:=e.kind==4) (λh4=> ?_) λh4=>aJ (c:=e.kind==5) (λh5=> ?_) λh5=>
  ao (kTC e.kind) (aJ (c:=kT e.kind) (λh6=> ?_) λh6=>aJ (c:=e.kind==8) (λh7=> ?_) λh7=>aJ (c:=e.kind==9) (λh8=> ?_) λh8=>aJ (c:=e.kind==12) (λh9=> ?_) λh9=>aJ (c:=e.kind==13) (λsI=> ?_) λsI=> ?_)))
 ·exact ao (bu amq (ah rfl)) (ah (by simp only [iD,h1,da];rfl))
 ·exact ao (bu Oa (ah rfl)) (ao (bu Xe (ah rfl)) (ah (by simp only [iD,h1,h2,da,dj];rfl)))
 ·exact ao (bu Oa (ah rfl)) (ao (bu Xe (ah rfl)) (ao (bu amp (ah rfl)) (ah (by simp only [iD,h1,h2,h3,da,dj];rfl))))
 ·exact ao (bu Xd (ah rfl)) (ah (by simp only [iD,h1,h2,h3,h4,da,dj];rfl))
 ·exact ao (bu Xd (ah rfl)) (ah (by simp only [iD,h1,h2,h3,h4,h5,da,dj];rfl))
 ·exact ah (by simp only [iD,h1,h2,h3,h4,h5,h6,da,dj];rfl)
 ·exact ah (by simp only [iD,h1,h2,h3,h4,h5,h6,h7,da,dj];rfl)
 ·exact ao (bu amo (ah rfl)) (ah (by simp only [iD,h1,h2,h3,h4,h5,h6,h7,h8,da,dj];rfl))
 ·exact ao (bu Oa (ah rfl)) (ah (by simp only [iD,h1,h2,h3,h4,h5,h6,h7,h8,h9,da,dj];rfl))
 ·exact ah (by simp only [iD,h1,h2,h3,h4,h5,h6,h7,h8,h9,sI,da,dj];rfl)
 ·exact ah (by simp only [iD,h1,h2,h3,h4,h5,h6,h7,h8,h9,sI,dj];rfl)
def nC(e:CE):Bool:=
 ((iD e).2 ==(e.L.length:Int))&&((iD e).1.N ==e.N)&&((iD e).1.op ==e.op)&&((iD e).1.O ==e.O)&&((iD e).1.off ==e.off)&&((iD e).1.len ==e.len)&&((iD e).1.lo ==e.lo)&&((iD e).1.hi ==e.hi)
def nD(h:(a != b)=true):(a==b)=false:=jh
def dF(h:(a != b)=false):(a==b)=true:=jh
def ayP(e:CE)(x:aD):E (λN _=>Hy (FU CX EE N) N [iI (iD e).2,.agg (bq e),.agg x,.agg (bq (iD e).1),.U ak []])
 (bif nC e then(0,[.agg (bq e),.agg (sT (ab wo 0 x) [(2,.aa 3)]),.agg (bq (iD e).1),.U ak []])else(1,[.bool false,.agg (bq e),.agg [.bool false,.bool false,.aa 3,iI 0,iI 0],.agg (bq (iD e).1),.U ak []])):=by
 refine cP ajR ?_;rw [dx,dx,xt,fY];have g:∀y:CE,gI (bq y) 1=y.op∧gI (bq y) 2=y.N∧gI (bq y) 3=y.O∧gI (bq y) 4=y.off∧gI (bq y) 5=y.len∧gI (bq y) 6=y.lo∧gI (bq y) 7=y.hi:=λy=>by
  rw [I1];exact⟨rfl,rfl,rfl,rfl,rfl,rfl,rfl⟩
 obtain⟨a1,a2,a3,a4,a5,a6,a7⟩:=g e;obtain⟨b1,b2,b3,b4,b5,b6,b7⟩:=g (iD e).1;rw [a1,a2,a3,a4,a5,a6,a7,b1,b2,b3,b4,b5,b6,b7];refine aJ (λh1=>ah ?_) λh1=>aJ (λh2=>ah ?_) λh2=>aJ (λh3=>ah ?_) λh3=>aJ (λh4=>ah ?_) λh4=>aJ (λh5=>ah ?_) λh5=>aJ (λh6=>ah ?_) λh6=>aJ (λh7=>ah ?_) λh7=>aJ (λh8=>ah ?_) λh8=>ah ?_
 ·simp only [nC,nD h1,uA,dj]
 ·simp only [nC,dF h1,nD h2,uA,wz,dj]
 ·simp only [nC,dF h1,dF h2,nD h3,uA,wz,dj]
 ·simp only [nC,dF h1,dF h2,dF h3,nD h4,uA,wz,dj]
 ·simp only [nC,dF h1,dF h2,dF h3,dF h4,nD h5,uA,wz,dj]
 ·simp only [nC,dF h1,dF h2,dF h3,dF h4,dF h5,nD h6,uA,wz,dj]
 ·simp only [nC,dF h1,dF h2,dF h3,dF h4,dF h5,dF h6,nD h7,uA,wz,dj]
 ·simp only [nC,dF h1,dF h2,dF h3,dF h4,dF h5,dF h6,dF h7,nD h8,wz,dj]
 ·simp only [nC,dF h1,dF h2,dF h3,dF h4,dF h5,dF h6,dF h7,dF h8,IL,da]
end
def Gf:SO:=⟨false,false,[],0,0⟩
def QW:SO:=⟨false,false,[],-2147483648,2147483647⟩
def atF:Ev H8 [] (0,[.agg (gF QW)]):=bu anP (ah rfl)
def Gk(p:Int):Bool:=bif decide (1<=p)then decide (p<=6)else false
def FH(a b:SO):Bool:=bif !a.ptr then !b.ptr else false
def asH(a b:SO):E (λN _=>Of (FU CX EE N) N [.agg (gF a),.agg (gF b)]) (0,[.bool (FH a b),.agg (gF a),.agg (gF b)]):=
 cP alY (aJ (c:= !a.ptr) (λh=>ah (by simp only [FH,h,da];rfl)) λh=>ah (by simp only [FH,h,dj];rfl))
def axU(p:Int):E (λN _=>N4 (FU CX EE N) N [.int .u8 p]) (0,[.bool (Gk p)]):=
 cP alu (aJ (λh=>ah (by simp only [Gk,h,da])) λh=>ah (by simp only [Gk,h,dj]))
def ayX{p:Int}(a b:SO)(h:Gk p=true):Ev Ox [.int .u8 p,.agg (gF a),.agg (gF b)] (0,[.agg (gF QW),.bool (FH a b)]):=by
 refine bu amX (ao (asH a b) (ao (axU p) (bj h (ao atF (ah rfl)))))
end Go.Proofs.YtffabbjfdgmbjaaGreat.C
namespace Go.ae
def og{p:Prop}(h:p:=by show(1:Nat)<=mx;decide):p:=h
def R9{p:Prop}(h:p:=by simp [nC,iD,kN,CE.kind,CE.L,CE.N,CE.op,CE.O,CE.off,CE.len,CE.lo,CE.hi]):p:=h
def Bq{p:Prop}(h:p:=by show(2:Nat)<=mx;decide):p:=h
def Jl{p:Prop}(h:p:=by erw [dx];exact k):p:=h
end Go.ae
namespace Go.Proofs.YtffabbjfdgmbjaaGreat.C
open Go Go.ae
section
variable{e:CE}{o:Int}
theorem acJ{x:Int}{n:Nat}:ib x n=true ↔ 0<=x∧x<n:=by simp [ib]
theorem Zb{l:List OB}{off:Int}(h:hZ l o off=true):ib o l.length=true:=by
 unfold hZ at h;cases h1:decide (0<=o)<;>rw [h1]at h<;>first|cases h|skip
 cases h2:decide (o<(l.length:Int))<;>rw [h2]at h<;>first|cases h|skip
 exact adZ h1 h2
structure WH where
 task:Int
 marks:bW
 yV:bW
 uD:bW
 jf:bW
 loops:bW
 B8:Bool
 rb:Bool
 IY:Bool
 El:Int
 deep:Int
structure WH.Ok(w:WH):Prop where
 marks:w.marks.length<=1000
 yV:w.yV.length<=1000
 uD:w.uD.length<=1000
 jf:w.jf.length<=1000
 loops:w.loops.length<=1000
structure RO where
 B3:Int
 task:Int
 entry:Int
def oo(r:RO):aD:=[iI r.B3,iI r.task,iI r.entry]
def qG:RO:=⟨-1,-1,-1⟩
abbrev cb(l:List RO):aH:=l.map oo
def oV(l:List RO)(i:Int):RO:=l.getD i.toNat qG
theorem ad7{l:List RO}{i:Int}(h:ib i l.length=true):gA (cb l) i.toNat=oo (oV l i):=by
 have:=acJ.1 h;have h2:i.toNat<l.length:=by omega
 rw [Br h2];simp [oV,h2]
abbrev cw(j:Nat)(w:WH):aD:=[.ptr j 0 0,iI w.task,.U ak (ints w.marks),.U ak (ints w.yV),.U ak (ints w.uD),.U ak (ints w.jf),.U ak (ints w.loops),.bool w.B8,.bool w.rb,.bool w.IY,iI w.El,iI w.deep]
abbrev gz(i j:Nat)(p:PG)(left:Int):aD:=[.U bE (ia p.bZ),iI (-1),.U bE (ia p.bZ),iI p.ry,.U cT (p.tasks.map bL),.U dN (p.bS.map ie),.aa i,iI left,.mp j]
abbrev lL(p:PG)(ro:List RO)(lf:Int)(cn:aH):aD:=[.agg (gz 1 2 p lf),.U ai (cb ro),.U 0 cn]
abbrev K0(p:PG)(lf:Int):AV:= .agg (gz 1 2 p lf)
section
variable {p:PG} {ro:List RO} {w:WH} (hw:w.Ok) {cn:aH} (hc:au (aq cn)=cn) {lf:Int}
def pY(ro:List RO)(w:WH)(o:Int):Bool:=
 bif decide (0<=(oV ro o).B3)then gQ w.jf (oV ro o).B3 else bif decide ((oV ro o).task <0)then true else bif (oV ro o).task ==w.task then gQ w.uD (oV ro o).entry else false
include hw hc in
theorem afz(ho:ib o ro.length=true):Ev Dx [.agg (cw 0 w),iI o,.agg (gz 1 2 p lf),.U ai (cb ro),.U 0 cn] (0,[.bool (pY ro w o),.agg (gz 1 2 p lf),.U ai (cb ro),.U 0 cn]):=by
 have ho':ib o (cb ro).length =true:=by rw [fI];exact ho
 refine bu alx (aV ho' (aV (by have:=acJ.1 ho;rw [fI];simp;omega) ?_));rw [hc,ad7 ho];refine aJ (c:=decide (0<=(oV ro o).B3)) (λh1=>ao (D3 (oV ro o).B3 (by have:=hw.jf;simp only [mx];omega)) (ah ?_)) λh1=>aJ (c:=decide ((oV ro o).task <0)) (λh2=>ah ?_) λh2=>aJ (c:=(oV ro o).task ==w.task) (λh3=>ao (D3 (oV ro o).entry (by have:=hw.uD;simp only [mx];omega)) (ah ?_)) λh3=>ah ?_
 ·simp only [pY,h1,da];rfl
 ·simp only [pY,h1,h2,da,dj];rfl
 ·simp only [pY,h1,h2,h3,da,dj];rfl
 ·simp only [pY,h1,h2,h3,dj];rfl
end
abbrev Am(l:List OB)(en:Int):AV:= .agg [.U bE (ia l),iI en]
abbrev x4:AV:= .agg [.bool false,.bool false,.aa 4,iI 0,iI 0]
inductive SE(l:List OB):CE->SO->Prop
 |num(n:Int)(h: -2147483648<=n∧n<=2147483647):SE l (.mk 1 0 n 0 0 0 0 0 []) ⟨false,n==0,[],n,n⟩
 |slot(o:Int)(h:hZ l o 0=true):SE l (.mk 2 0 0 o 0 0 0 0 []) ⟨(iw l o).ptr,false,(iw l o).set,(iw l o).lo,(iw l o).hi⟩
 |bin(q:Int)(a b:CE)(sa sb:SO)(hq:Gk q=true)(ha:SE l a sa)(hb:SE l b sb)(h:FH sa sb=true):SE l (.mk 5 q 0 0 0 0 0 0 [a,b]) QW
 |T5(lo hi:Int)(a:CE)(sa:SO)(h: -2147483648<=lo∧hi<=2147483647∧lo<=hi)(ha:SE l a sa)(hp:sa.ptr=false):SE l (.mk 9 0 0 0 0 0 lo hi [a]) ⟨false,false,[],lo,hi⟩
section
variable {l:List OB} {en:Int} {lt:aH}
theorem tJ(e:CE):gI (bq e) 0=e.kind:=wO
theorem Cm(e:CE)(ss:List SO)(sI:e.kind≠10)(hlen:e.L.length=ss.length)(hl:e.L.length<=mx)(hk:∀i (h:i<e.L.length),Ev Dw [Am l en,.agg (bq e.L[i]),.U gi lt] (0,[.agg (gF (ss.getD i Gf)),.bool true])):
 E (λN _=>Ns (FU CX EE N) N [.U gi lt,Am l en,.agg (bq e),x4,.U gi [],.U ak []]) (0,[Am l en,.agg (bq e),x4,.U gi (ss.map gF),.U ak []]):=by
 have k:=gy (m:=e.L.length) (P:=λi=>E (λN m=>Hu (FU CX EE N) N m [.U gi lt,.U ax (e.L.map bq),iI (ln (e.L.map bq)),iI (i:Int),Am l en,.agg (bq e),x4,.U gi ((ss.take i).map gF),.U ak []]) (1,[Am l en,.agg (bq e),x4,.U gi (ss.map gF),.U ak []]))
  (by
    rw [hlen,Iq,<-hlen];refine bx Ws (aC eJ (ah ?_));rw [dx];rfl) λi hi ih=>by
    have CR:i<ss.length:=by omega
    refine bx Ws (bj (ew hi) (aV (ey hi) ?_));rw [BP hi,dx,ix hi hl];have j:E (λN _=>MY (FU CX EE N) N [.U gi lt,iI (i:Int),.U gi lt,.agg (bq e),.U gi ((ss.take i).map gF)]) (0,[.U gi lt,.agg (bq e),.U gi ((ss.take i).map gF)]):=by
     refine cP aiv ?_;rw [tJ,dx];exact aC (by simpa using sI) (ah rfl)
    refine ao j (ao (hk i hi) (aC rfl (aV ?_ ?_)))
    ·show decide ((((ss.take i).map gF).length +1)*48<=140737488355328)=true;simp only [mx]at hl;simp;omega
    ·have e2:(ss.take i).map gF++[gF (ss.getD i Gf)]=(ss.take (i+1)).map gF:=by
      rw [AY CR,lX];simp [List.getD,CR]
     rw [<-e2]at ih;erw [dx];exact ih
 refine cP ajQ ?_;rw [xt,dx];refine ao k.diag (aC rfl (ah ?_));erw [dx];rfl
theorem aqD(n:Int):nC (.mk 1 0 n 0 0 0 0 0 [])=true:=R9
theorem apG(o:Int):nC (.mk 2 0 0 o 0 0 0 0 [])=true:=R9
theorem aqE(q:Int)(a b:CE):nC (.mk 5 q 0 0 0 0 0 0 [a,b])=true:=R9
theorem aqC(lo hi:Int)(a:CE):nC (.mk 9 0 0 0 0 0 lo hi [a])=true:=by simp [nC,iD,kN,kT,CE.kind,CE.L,CE.N,CE.op,CE.O,CE.off,CE.len,CE.lo,CE.hi]
theorem Lk(h:nC e=true):E (λN _=>Hy (FU CX EE N) N [iI (iD e).2,.agg (bq e),.agg [.bool false,.bool false,.aa 3,iI 0,iI 0],.agg (bq (iD e).1),.U ak []]) (0,[.agg (bq e),.agg [.bool false,.bool false,.aa 3,iI 0,iI 0],.agg (bq (iD e).1),.U ak []]):=by
 have:=ayP e [.bool false,.bool false,.aa 3,iI 0,iI 0];rw [h]at this;exact this
theorem seC{s:SO}(h:SE l e s):Ev Dw [Am l en,.agg (bq e),.U gi lt] (0,[.agg (gF s),.bool true]):=by
 induction h with
 |num n h=>
  have k:=Cm (l:=l) (en:=en) (lt:=lt) (.mk 1 0 n 0 0 0 0 0 []) [] (by show(1:Int)≠10;decide) rfl (by show(0:Nat)<=mx;decide) λi hi=>absurd hi (by simp [CE.L]);refine bu HC ?_;rw [dx];refine ao (LZ _) (ao (by erw [dx];exact Lk (aqD n)) (bj rfl (ao (Jl) (bj rfl (bj rfl ?_)))));refine bj (by show decide (-2147483648<=n)=true;simpa using h.1) (ah ?_);show((0,[.agg [.bool false,.bool (n==0),.U ak [],iI n,iI n],.bool (decide (n<=2147483647))]):UO)=_;rw [show decide (n<=2147483647)=true by simpa using h.2];rfl
 |slot o h=>
  have k:=Cm (l:=l) (en:=en) (lt:=lt) (.mk 2 0 0 o 0 0 0 0 []) [] (by show(2:Int)≠10;decide) rfl (by show(0:Nat)<=mx;decide) λi hi=>absurd hi (by simp [CE.L]);have kc:=acE (l:=l) (en:=en) (o:=o) (off:=0);rw [h]at kc;refine bu HC ?_;rw [dx];refine ao (LZ _) (ao (by erw [dx];exact Lk (apG o)) (bj rfl (ao (Jl) (bj rfl (aC rfl (bj rfl ?_))))));refine ao kc (aC rfl ?_);have LN:ib o l.length=true:=Zb h;refine aV (by show ib o (ia l).length =true;rw [Sf];exact LN) (ah ?_);show((0,[.agg [.bool (gB (gA (ia l) o.toNat) 3),.bool false,.U ak (gR (gA (ia l) o.toNat) 4),iI (gI (gA (ia l) o.toNat) 1),iI (gI (gA (ia l) o.toNat) 2)],.bool true]):UO)=_;rw [Fk LN];rfl
 |bin q a b sa sb hq ha hb h Um sw=>
  have k:=Cm (l:=l) (en:=en) (lt:=lt) (.mk 5 q 0 0 0 0 0 0 [a,b]) [sa,sb] (by show(5:Int)≠10;decide) rfl (Bq) λi hi=>by
   match i,hi with
   |0,_=>exact Um
   |1,_=>exact sw
   |i+2,hi=>exact absurd hi (by simp [CE.L])
  have kb:=ayX sa sb hq;rw [h]at kb;refine bu HC ?_;rw [dx];refine ao (LZ _) (ao (by erw [dx];exact Lk (aqE q a b)) (bj rfl (ao (Jl) (bj rfl (aC rfl (aC rfl (aC rfl (aC rfl (bj rfl ?_)))))))));refine aV rfl (aV rfl (aV rfl (aV rfl ?_)));exact ao kb (ah rfl)
 |T5 lo hi a sa h ha hp Um=>
  have k:=Cm (l:=l) (en:=en) (lt:=lt) (.mk 9 0 0 0 0 0 lo hi [a]) [sa] (by show(9:Int)≠10;decide) rfl (og) λi hi=>by
   match i,hi with
   |0,_=>exact Um
   |i+1,hi=>exact absurd hi (by simp [CE.L])
  refine bu HC ?_;rw [dx];refine ao (LZ _) (ao (by erw [dx];exact Lk (aqC lo hi a)) (bj rfl (ao (Jl) (bj rfl (aC rfl (aC rfl (aC rfl (aC rfl (aC rfl ?_)))))))));refine ao (cP ahV (aC rfl (ah rfl))) (aC rfl (aC rfl (bj rfl ?_)));refine bj (by show decide (-2147483648<=lo)=true;simpa using h.1) (bj (by show decide (hi<=2147483647)=true;simpa using h.2.1) (bj (by show decide (lo<=hi)=true;simpa using h.2.2) (aV rfl (aV rfl (ah ?_)))));show((0,[.agg [.bool false,.bool false,.U ak [],iI lo,iI hi],.bool (!sa.ptr)]):UO)=_;rw [hp];rfl
end
end
end Go.Proofs.YtffabbjfdgmbjaaGreat.C
namespace Go.ae
def abq{p:Prop}(h:p:=by
 rw [hc];refine ao k.diag (aC rfl (ah ?_));erw [hc];rfl):p:=h
end Go.ae
namespace Go.Proofs.YtffabbjfdgmbjaaGreat.C
open Go Go.ae
inductive UE(ro:List RO)(w:WH):CE->Prop
 |mk(e:CE)(h2:(e.kind==2)=true->ib e.O ro.length=true∧pY ro w e.O=true)(h3:(e.kind==3)=false)(CY:(e.kind==12)=false)(hk:∀y∈e.L,UE ro w y):UE ro w e
theorem KZ(e:CE):gI (bq e) 3=e.O:=wO
section
variable {p:PG} {ro:List RO} {w:WH} (hw:w.Ok) {cn:aH} (hc:au (aq cn)=cn) {lf:Int}
include hw hc in
theorem asq:∀e:CE,e.Ok->UE ro w e->Ev HJ [.agg (cw 0 w),.agg (bq e),K0 p lf,.U ai (cb ro),.U 0 cn] (0,.bool true::lL p ro lf cn):=by
 refine CE.ind λe ih aQ hu=> ?_;obtain⟨_,h2,h3,CY,hk⟩:=hu;have hJ:E (λN _=>ND (FU CX EE N) N [K0 p lf,.U ai (cb ro),.U 0 cn,.agg (cw 0 w),.agg (bq e)]) (0,lL p ro lf cn++[.agg (cw 0 w),.agg (bq e)]):=by
  refine cP akg ?_;rw [hc,tJ,KZ,dx];refine aJ (λh1=> ?_) λh1=>aC h3 (aC CY (ah rfl));refine ao (afz hw hc (h2 h1).1) ?_;erw [hc];exact aC (by show(!pY ro w e.O)=false;rw [(h2 h1).2];rfl) (ah rfl)
 have k:=gy (m:=e.L.length) (P:=λi=>E (λN m=>G3 (FU CX EE N) N m [.U ax (e.L.map bq),iI (ln (e.L.map bq)),iI (i:Int),.agg (cw 1 w),.agg (gz 2 3 p lf),.U ai (cb ro),.U 0 cn]) (1,[.agg (cw 1 w),.agg (gz 2 3 p lf),.U ai (cb ro),.U 0 cn]))
  (bx Vz (aC eJ (ah (by rw [hc];rfl)))) λi hi ihi=>by
    have hm:=eH hi;refine bx Vz (bj (ew hi) (aV (ey hi) ?_));rw [hc,BP hi,ix hi aQ.len];have q:Ev Nw [.agg (bq e.L[i]),.agg (cw 1 w),.agg (gz 2 3 p lf),.U ai (cb ro),.U 0 cn] (0,[.bool false,.agg (cw 1 w),.agg (gz 2 3 p lf),.U ai (cb ro),.U 0 cn]):=by
     refine bu akj ?_;rw [hc,dx];refine ao (ih _ hm (aQ.hR hm) (hk _ hm)) (ah ?_);erw [hc];rfl
    refine ao q (aC rfl ?_);erw [hc];exact ihi
 have a1:Ev Ml [.U ax (e.L.map bq),.agg (cw 1 w),.agg (gz 2 3 p lf),.U ai (cb ro),.U 0 cn] (0,[iI (-1),.agg (cw 1 w),.agg (gz 2 3 p lf),.U ai (cb ro),.U 0 cn]):=by
  refine bu agM ?_;exact abq
 have a2:Ev Mf [.U ax (e.L.map bq),.agg (cw 1 w),.agg (gz 2 3 p lf),.U ai (cb ro),.U 0 cn] (0,[.bool false,.agg (cw 1 w),.agg (gz 2 3 p lf),.U ai (cb ro),.U 0 cn]):=by
  refine bu agv ?_;rw [hc];refine ao a1 (ah ?_);erw [hc];rfl
 refine bu ak4 ?_;rw [hc,dx];refine ao hJ (bj rfl ?_);erw [hc,xt];refine ao a2 (ah ?_);erw [hc];rfl
end
theorem ofC{l:List OB}{en:Int}{e:CE}{s:SO}(h:SE l e s)(aQ:e.Ok)(hz:Lp e=true):Ev HM [Am l en,.agg (bq e)] (0,[.agg (gF s),.bool true]):=by
 obtain⟨n',k1,_⟩:=aqY e aQ 0 256 (ea) (ea) (ea) (ea);have:(decide ((pb e:Int)<=256)&&decide ((0:Int)+tZ e<=64))=true:=by rw [Int.zero_add];exact hz
 rw [this]at k1;refine bu al5 ?_;rw [dx];exact ao k1 (aC rfl (ao (seC h) (ah rfl)))
structure XE(p:PG)(ro:List RO)(w:WH)(e:CE)(s:SO):Prop where
 ok:e.Ok
 z:Lp e=true
 se:SE p.bZ e s
 us:UE ro w e
section
variable {p:PG} {ro:List RO} {w:WH} (hw:w.Ok) {cn:aH} (hc:au (aq cn)=cn) {lf:Int} {e:CE} {s:SO} (hx:XE p ro w e s)
include hw hc hx
theorem Sy:Ev AF [.agg (cw 0 w),.agg (bq e),K0 p lf,.U ai (cb ro),.U 0 cn] (0,.agg (gF s):: .bool true::lL p ro lf cn):=by
 refine bu ak6 ?_;rw [hc,dx];refine ao (ofC hx.se hx.ok hx.z) (bj rfl (ao (asq hw hc e hx.ok hx.us) (ah ?_)));erw [hc];rfl
theorem ax0(h:s.ptr=false):Ev Dr [.agg (cw 0 w),.agg (bq e),K0 p lf,.U ai (cb ro),.U 0 cn] (0,.bool true::lL p ro lf cn):=by
 refine bu akm ?_;rw [hc,dx];refine ao (Sy hw hc hx) (bj rfl (ah ?_));erw [hc];show((0,.bool (!s.ptr)::lL p ro lf cn):UO)=_;exact iF
theorem atB(h:Fz s=true):Ev Hj [.agg (cw 0 w),.agg (bq e),K0 p lf,.U ai (cb ro),.U 0 cn] (0,.bool true::lL p ro lf cn):=by
 have ht:=atZ s;rw [h]at ht;refine bu aiR ?_;rw [hc,dx];refine ao (Sy hw hc hx) (bj rfl (ao ht (ah ?_)));erw [hc];rfl
end
end Go.Proofs.YtffabbjfdgmbjaaGreat.C
namespace Go.ae
def abw{p:Prop}(h:p:=by
 rw [hc];refine ao q2.diag (aC rfl (ah ?_));erw [hc];rfl):p:=h
end Go.ae
namespace Go.Proofs.YtffabbjfdgmbjaaGreat.C
open Go Go.ae
section
variable{o:Int}
abbrev ox(o:Int):PL:=⟨1,o,0,0,[]⟩
abbrev W3(p:PG)(ro:List RO)(lf:Int)(cn:aH)(w:WH):aD:=[K0 p lf,.U ai (cb ro),.U 0 cn,.agg (cw 0 w)]
section
variable {p:PG} {ro:List RO} {w:WH} (hw:w.Ok) {cn:aH} (hc:au (aq cn)=cn) {lf:Int}
include hw hc
theorem arp(hk:hZ p.bZ o 0=true)(hr:ib o ro.length=true)(hm:pY ro w o=true)(hl:gQ w.loops o=false):
 Ev NM [.agg (cw 0 w),.agg (eM (ox o)),K0 p lf,.U ai (cb ro),.U 0 cn] (0,.U ak (ints [o]):: .bool true::lL p ro lf cn):=by
 have kc:=acE (l:=p.bZ) (en:= -1) (o:=o) (off:=0);rw [hk]at kc;have km:=afz hw hc (p:=p) (lf:=lf) hr;rw [hm]at km;have kl:=D3 (l:=w.loops) o (by have:=hw.loops;simp only [mx];omega);rw [hl]at kl;have j1:E (λN _=>Ng (FU CX EE N) N [iI 1,K0 p lf,.U ai (cb ro),.U 0 cn,.agg (eM (ox o)),.agg [.int .u8 1,iI 0,iI 0,iI 0,.aa 5],.U ax []]) (0,[iI 0,K0 p lf,.U ai (cb ro),.U 0 cn,.agg (eM (ox o)),.agg [.int .u8 1,iI o,iI 0,iI 0,.aa 5],.U ax []]):=by
  refine cP ajk ?_;rw [hc];exact yN
 have j2:E (λN _=>Nf (FU CX EE N) N [iI 0,K0 p lf,.U ai (cb ro),.U 0 cn,.agg (eM (ox o)),.agg [.int .u8 1,iI o,iI 0,iI 0,.aa 5],.U ax []]) (0,[K0 p lf,.U ai (cb ro),.U 0 cn,.agg (eM (ox o)),.agg [.int .u8 1,iI o,iI 0,iI 0,.aa 5],.U ax []]):=by
  refine cP ajj ?_;rw [hc];refine aC (by show(o != o)=false;simp) (aC rfl (aC rfl (aC rfl (ah rfl))))
 have j3:E (λN _=>M5 (FU CX EE N) N [iI 0,K0 p lf,.U ai (cb ro),.U 0 cn,.agg (cw 0 w),.agg (eM (ox o)),.agg [.bool false,.bool false,.aa 6,iI 0,iI 0],.U ak []]) (0,W3 p ro lf cn w++[.agg (eM (ox o)),.agg (gF Gf)]):=by
  refine cP aiO ?_;rw [hc];exact pR
 have j4:E (λN _=>MW (FU CX EE N) N [K0 p lf,.U ai (cb ro),.U 0 cn,.agg (cw 0 w),.agg (eM (ox o)),.agg (gF Gf)]) (0,.U ak (ints [o])::W3 p ro lf cn w++[.agg (eM (ox o)),.agg (gF Gf)]):=by
  refine cP ait ?_;rw [hc];refine bj rfl (ao kc (aC rfl (ao km (aC rfl (ah ?_)))));erw [hc];rfl
 have q1:Ev Nm [iI o,.agg (cw 1 w),.agg (gz 2 3 p lf),.U ai (cb ro),.U 0 cn] (0,[.bool false,.agg (cw 1 w),.agg (gz 2 3 p lf),.U ai (cb ro),.U 0 cn]):=by
  refine bu ajV ?_;rw [hc];exact ao kl (ah rfl)
 have q2:E (λN m=>G4 (FU CX EE N) N m [.U ak (ints [o]),iI 1,iI 0,.agg (cw 1 w),.agg (gz 2 3 p lf),.U ai (cb ro),.U 0 cn]) (1,[.agg (cw 1 w),.agg (gz 2 3 p lf),.U ai (cb ro),.U 0 cn]):=by
  refine bx VC (bj rfl (aV rfl ?_));rw [hc];refine ao q1 (aC rfl (bx VC (aC rfl (ah ?_))));erw [hc,hc];rfl
 have q3:Ev Mp [.U ak (ints [o]),.agg (cw 1 w),.agg (gz 2 3 p lf),.U ai (cb ro),.U 0 cn] (0,[iI (-1),.agg (cw 1 w),.agg (gz 2 3 p lf),.U ai (cb ro),.U 0 cn]):=by
  refine bu agS ?_;exact abw
 have q4:Ev Mg [.U ak (ints [o]),.agg (cw 1 w),.agg (gz 2 3 p lf),.U ai (cb ro),.U 0 cn] (0,[.bool false,.agg (cw 1 w),.agg (gz 2 3 p lf),.U ai (cb ro),.U 0 cn]):=by
  refine bu agz ?_;rw [hc];refine ao q3 (ah ?_);erw [hc];rfl
 refine bu akF ?_;rw [hc];refine ao j1 (bj rfl ?_);erw [hc];refine ao j2 (bj rfl ?_);erw [hc];refine ao j3 (bj rfl ?_);erw [hc];refine ao j4 (bj rfl ?_);erw [hc];refine ao q4 (ah ?_);erw [hc];rfl
theorem atp{e:CE}{s:SO}(hx:XE p ro w e s)(ho:ib o p.bZ.length=true)(hp:(iw p.bZ o).ptr =false)(hf:vr s (iw p.bZ o)=true):
 Ev Dy [.agg (cw 0 w),.agg (bq e),.U ak (ints [o]),K0 p lf,.U ai (cb ro),.U 0 cn] (0,.bool true::lL p ro lf cn):=by
 have kf:=ayQ (s:=s) hp;rw [hf]at kf;have q1:Ev NN [iI o,.agg (gF s),.agg (cw 2 w),.agg (gz 3 4 p lf),.U ai (cb ro),.U 0 cn] (0,[.bool false,.agg (gF s),.agg (cw 2 w),.agg (gz 3 4 p lf),.U ai (cb ro),.U 0 cn]):=by
  refine bu akH ?_;rw [hc];refine aV (by show ib o (ia p.bZ).length =true;rw [Sf];exact ho) ?_;erw [Fk ho,Kp,atX];exact ao kf (ah rfl)
 have q2:E (λN m=>G5 (FU CX EE N) N m [.U ak (ints [o]),iI 1,iI 0,.agg (gF s),.agg (cw 2 w),.agg (gz 3 4 p lf),.U ai (cb ro),.U 0 cn]) (1,[.agg (gF s),.agg (cw 2 w),.agg (gz 3 4 p lf),.U ai (cb ro),.U 0 cn]):=by
  refine bx VG (bj rfl (aV rfl ?_));rw [hc];refine ao q1 (aC rfl (bx VG (aC rfl (ah ?_))));erw [hc,hc];rfl
 have q3:Ev Ms [.U ak (ints [o]),.agg (gF s),.agg (cw 2 w),.agg (gz 3 4 p lf),.U ai (cb ro),.U 0 cn] (0,[iI (-1),.agg (gF s),.agg (cw 2 w),.agg (gz 3 4 p lf),.U ai (cb ro),.U 0 cn]):=by
  refine bu agX ?_;exact abw
 have q4:Ev Mm [.U ak (ints [o]),.agg (gF s),.agg (cw 2 w),.agg (gz 3 4 p lf),.U ai (cb ro),.U 0 cn] (0,[.bool false,.agg (gF s),.agg (cw 2 w),.agg (gz 3 4 p lf),.U ai (cb ro),.U 0 cn]):=by
  refine bu agN ?_;rw [hc];refine ao q3 (ah ?_);erw [hc];rfl
 refine bu aly ?_;rw [hc,dx];refine ao (Sy hw hc hx) (bj rfl ?_);erw [hc];refine ao q4 (ah ?_);erw [hc];rfl
end
end
end Go.Proofs.YtffabbjfdgmbjaaGreat.C
namespace Go.ae
def y2{p:Prop}(h:p:=by rw [xP]at h;simp only [nU]at h;rw [h]):p:=h
end Go.ae
namespace Go.ae
def nT:=@Bool.not_eq_false'
end Go.ae
namespace Go.Proofs.YtffabbjfdgmbjaaGreat.C
open Go Go.ae
section
variable{a b:Bool}{l:aH}
structure XF where
 N:Int
 O:Int
 T:Int
 P:Int
 entry:Int
 In:Bool
 rev:Bool
 ow:Bool
 qO:Bool
 qQ:Bool
 mode:Int
def xz:XF:=⟨0,0,0,0,0,false,false,false,false,false,0⟩
def _root_.Go.Proofs.YtffabbjfdgmbjaaGreat.dW.x(f:dW):XF:=⟨f.N,f.O,f.T,f.P,f.entry,f.In,f.rev,f.ow,f.qO,f.qQ,f.mode⟩
def fz(k:Int)(x:XF):dW:=⟨k,x.N,x.O,x.T,x.P,x.entry,x.In,x.rev,x.ow,x.qO,x.qQ,x.mode,[],[],[],[],[]⟩
abbrev flat(k:Int)(x:XF):aD:=oq (fz k x) [] [] [] []
theorem xP:(ln l != 0)= !l.isEmpty:=by cases l<;>simp [ln];omega
theorem zU(h:l.isEmpty=true):decide ((0:Int)<ln l)=false:=by
 have:l=[]:=jh;subst this;rfl
theorem eqE(l:aH):Ev G8 [.U ax l,.U ax []] (0,[.bool l.isEmpty]):=by
 refine bu ag2 (aJ (c:=ln l != 0) (λh=>ah ?_) λh=> ?_)
 ·exact y2
 ·rw [xP]at h;simp only [nT]at h;rw [h];exact ao (E.diag (f:=λN m=>Mq (FU CX EE N) N m _) (bx agR (aC (zU h) (ah rfl)))) (ah rfl)
theorem eqP(l:aH):Ev G7 [.U aL l,.U aL []] (0,[.bool l.isEmpty]):=by
 refine bu agY (aJ (c:=ln l != 0) (λh=>ah ?_) λh=> ?_)
 ·exact y2
 ·rw [xP]at h;simp only [nT]at h;rw [h];exact ao (E.diag (f:=λN m=>Mn (FU CX EE N) N m _) (bx agJ (aC (zU h) (ah rfl)))) (ah rfl)
theorem eqS(l:aH):Ev Mu [.U aZ l,.U aZ []] (0,[.bool l.isEmpty]):=by
 refine bu ag1 (aJ (c:=ln l != 0) (λh=>ah ?_) λh=> ?_)
 ·exact y2
 ·rw [xP]at h;simp only [nT]at h;rw [h];exact ao (E.diag (f:=λN m=>G6 (FU CX EE N) N m _) (bx agQ (aC (zU h) (ah rfl)))) (ah rfl)
theorem eqI(l:aH):Ev NJ [.U ak l,.U ak []] (0,[.bool l.isEmpty]):=by
 refine bu akC (aJ (c:=ln l != 0) (λh=>ah ?_) λh=> ?_)
 ·exact y2
 ·rw [xP]at h;simp only [nT]at h;rw [h];exact ao (E.diag (f:=λN m=>Hr (FU CX EE N) N m _) (bx ajc (aC (zU h) (ah rfl)))) (ah rfl)
theorem eqD(l:aH):Ev Mr [.U bD l,.U bD []] (0,[.bool l.isEmpty]):=by
 refine bu agV (aJ (c:=ln l != 0) (λh=>ah ?_) λh=> ?_)
 ·exact y2
 ·rw [xP]at h;simp only [nT]at h;rw [h];exact ao (E.diag (f:=λN m=>Mj (FU CX EE N) N m _) (bx agD (aC (zU h) (ah rfl)))) (ah rfl)
theorem eqH(l:aH):Ev Mi [.U bK l,.U bK []] (0,[.bool l.isEmpty]):=by
 refine bu agE (aJ (c:=ln l != 0) (λh=>ah ?_) λh=> ?_)
 ·exact y2
 ·rw [xP]at h;simp only [nT]at h;rw [h];exact ao (E.diag (f:=λN m=>Md (FU CX EE N) N m _) (bx agp (aC (zU h) (ah rfl)))) (ah rfl)
theorem eqA(l:aH):Ev Mt [.U bP l,.U bP []] (0,[.bool l.isEmpty]):=by
 refine bu agZ (aJ (c:=ln l != 0) (λh=>ah ?_) λh=> ?_)
 ·exact y2
 ·rw [xP]at h;simp only [nT]at h;rw [h];exact ao (E.diag (f:=λN m=>Mo (FU CX EE N) N m _) (bx agK (aC (zU h) (ah rfl)))) (ah rfl)
def xB(k:Int)(f:XF)(k':Int)(x:XF):Bool:=
 (k==k')&&((f.N==x.N)&&((f.O==x.O)&&((f.T==x.T)&&((f.P==x.P)&&((f.entry==x.entry)&&((f.mode==x.mode)&&((f.In==x.In)&&((f.rev==x.rev)&&((f.ow==x.ow)&&((f.qO==x.qO)&&(f.qQ==x.qQ)))))))))))
def lB(f:dW)(L D H A:aH):Bool:=
 (f.E.map bq).isEmpty &&((f.oI.map bq).isEmpty &&((ints f.Ts).isEmpty &&((f.To.map eM).isEmpty &&((f.mi.map eM).isEmpty &&(L.isEmpty&&(D.isEmpty&&(H.isEmpty&&A.isEmpty)))))))
def Gg(f:dW)(L D H A:aH)(k':Int)(x:XF):Bool:=xB f.kind f.x k' x&&lB f L D H A
theorem Lu(h:(!(a==b))=true):(a==b)=false:=jh
theorem tO(h:(!(a==b))=false):(a==b)=true:=jh
section
variable (f:dW) (L D H A:aH) (k:Int) (x:XF)
def nF(k:Int)(f:XF)(k':Int)(x:XF):Bool:=(k==k')&&((f.N==x.N)&&((f.O==x.O)&&((f.T==x.T)&&((f.P==x.P)&&((f.entry==x.entry)&&(f.mode==x.mode))))))
def p9(f x:XF):Bool:=(f.In==x.In)&&((f.rev==x.rev)&&((f.ow==x.ow)&&((f.qO==x.qO)&&(f.qQ==x.qQ))))
theorem asn{k k':Int}{f x:XF}:xB k f k' x=(nF k f k' x&&p9 f x):=by unfold xB nF p9;simp only [Ei]
theorem at1:E (λN _=>NP (FU CX EE N) N [.agg (oq f L D H A),.agg (flat k x)]) (0,[.bool (!nF f.kind f.x k x),.agg (oq f L D H A),.agg (flat k x)]):=by
 refine cP akB ?_;refine aJ (c:=f.kind != k) (λh=>ah (by simp only [nF,nD h];rfl)) λh=>aJ (c:=f.N != x.N) (λh2=>ah ?_) λh2=>aJ (c:=f.O != x.O) (λh3=>ah ?_) λh3=>aJ (c:=f.T != x.T) (λh4=>ah ?_) λh4=>aJ (c:=f.P != x.P) (λh5=>ah ?_) λh5=>aJ (c:=f.entry != x.entry) (λh6=>ah ?_) λh6=>ah ?_
 ·have:nF f.kind f.x k x=false:=by unfold nF dW.x;rw [dF h,nD h2];rfl
  exact jg
 ·have:nF f.kind f.x k x=false:=by unfold nF dW.x;rw [dF h,dF h2,nD h3];rfl
  exact jg
 ·have:nF f.kind f.x k x=false:=by unfold nF dW.x;rw [dF h,dF h2,dF h3,nD h4];rfl
  exact jg
 ·have:nF f.kind f.x k x=false:=by unfold nF dW.x;rw [dF h,dF h2,dF h3,dF h4,nD h5];rfl
  exact jg
 ·have:nF f.kind f.x k x=false:=by unfold nF dW.x;rw [dF h,dF h2,dF h3,dF h4,dF h5,nD h6];rfl
  exact jg
 ·have:nF f.kind f.x k x=(f.mode==x.mode):=by unfold nF dW.x;rw [dF h,dF h2,dF h3,dF h4,dF h5,dF h6];rfl
  exact jg
theorem asu:E (λN _=>NG (FU CX EE N) N [.agg (oq f L D H A),.agg (flat k x)]) (0,[.bool (!p9 f.x x),.agg (oq f L D H A),.agg (flat k x)]):=by
 refine cP aki ?_;refine aJ (c:= !(f.In==x.In)) (λh=>ah ?_) λh=>aJ (c:= !(f.rev==x.rev)) (λh2=>ah ?_) λh2=>aJ (c:= !(f.ow==x.ow)) (λh3=>ah ?_) λh3=>aJ (c:= !(f.qO==x.qO)) (λh4=>ah ?_) λh4=>ah ?_
 ·have:p9 f.x x=false:=by unfold p9 dW.x;rw [Lu h];rfl
  exact jg
 ·have:p9 f.x x=false:=by unfold p9 dW.x;rw [tO h,Lu h2];rfl
  exact jg
 ·have:p9 f.x x=false:=by unfold p9 dW.x;rw [tO h,tO h2,Lu h3];rfl
  exact jg
 ·have:p9 f.x x=false:=by unfold p9 dW.x;rw [tO h,tO h2,tO h3,Lu h4];rfl
  exact jg
 ·have:p9 f.x x=(f.qQ==x.qQ):=by unfold p9 dW.x;rw [tO h,tO h2,tO h3,tO h4];rfl
  exact jg
theorem ast:E (λN _=>NF (FU CX EE N) N [.agg (oq f L D H A),.agg (flat k x)]) (0,[.bool (!((f.E.map bq).isEmpty &&((f.oI.map bq).isEmpty &&(ints f.Ts).isEmpty))),.agg (oq f L D H A),.agg (flat k x)]):=by
 refine cP akh ?_;refine ao (eqE (f.E.map bq)) (aJ (c:= !(f.E.map bq).isEmpty) (λh=>ah ?_) λh=>ao (eqE (f.oI.map bq)) (aJ (c:= !(f.oI.map bq).isEmpty) (λh2=>ah ?_) λh2=>ao (eqI (ints f.Ts)) (ah ?_)))
 ·simp only [nU]at h;rw [h];rfl
 ·simp only [nU,nT]at h h2;rw [h,h2];rfl
 ·simp only [nT]at h h2;rw [h,h2];rfl
def xQ(f:dW)(L:aH):Bool:=(f.To.map eM).isEmpty &&((f.mi.map eM).isEmpty &&L.isEmpty)
theorem sm6:E (λN _=>NV (FU CX EE N) N [.agg (oq f L D H A),.agg (flat k x)]) (bif xB f.kind f.x k x&&(((f.E.map bq).isEmpty &&((f.oI.map bq).isEmpty &&(ints f.Ts).isEmpty))&&xQ f L)then(0,[.agg (oq f L D H A),.agg (flat k x)])else(1,[.bool false,.agg (oq f L D H A),.agg (flat k x)])):=by
 refine cP ak0 ?_;rw [asn];refine ao (at1 f L D H A k x) (aJ (c:= !nF f.kind f.x k x) (λh=>ah ?_) λh=>ao (asu f L D H A k x) (aJ (c:= !p9 f.x x) (λh2=>ah ?_) λh2=>ao (ast f L D H A k x) (aJ (c:= !((f.E.map bq).isEmpty &&((f.oI.map bq).isEmpty &&(ints f.Ts).isEmpty))) (λh3=>ah ?_) λh3=>ao (eqP (f.To.map eM)) (aJ (c:= !(f.To.map eM).isEmpty) (λh4=>ah ?_) λh4=>ao (eqP (f.mi.map eM)) (aJ (c:= !(f.mi.map eM).isEmpty) (λh5=>ah ?_) λh5=>ao (eqS L) (aJ (c:= !L.isEmpty) (λh6=>ah ?_) λh6=>ah ?_))))))
 ·simp only [nU]at h;rw [h];rfl
 ·simp only [nU,nT]at h h2;rw [h,h2];rfl
 ·simp only [nU,nT]at h h2 h3;rw [h,h2,h3];rfl
 ·simp only [nU,nT]at h h2 h3 h4;unfold xQ;rw [h,h2,h3,h4];rfl
 ·simp only [nU,nT]at h h2 h3 h4 h5;unfold xQ;rw [h,h2,h3,h4,h5];rfl
 ·simp only [nU,nT]at h h2 h3 h4 h5 h6;unfold xQ;rw [h,h2,h3,h4,h5,h6];rfl
 ·simp only [nT]at h h2 h3 h4 h5 h6;unfold xQ;rw [h,h2,h3,h4,h5,h6];rfl
theorem aq9:Gg f L D H A k x=((xB f.kind f.x k x&&(((f.E.map bq).isEmpty &&((f.oI.map bq).isEmpty &&(ints f.Ts).isEmpty))&&xQ f L))&&(D.isEmpty&&(H.isEmpty&&A.isEmpty))):=by
 unfold Gg lB xQ;simp only [Ei]
theorem smC:Ev HN [.agg (oq f L D H A),.agg (flat k x)] (0,[.bool (Gg f L D H A k x)]):=by
 refine bu al6 (ao (sm6 f L D H A k x) ?_);rw [aq9];cases xB f.kind f.x k x&&(((f.E.map bq).isEmpty &&((f.oI.map bq).isEmpty &&(ints f.Ts).isEmpty))&&xQ f L)with
 |false=>exact pR
 |true=>
  refine bj rfl ?_;simp only [da];refine(ao (eqD D) (aJ (c:=D.isEmpty) (λh=>ao (eqH H) (aJ (c:=H.isEmpty) (λh2=>ao (eqA A) (ah ?_)) λh2=>ah ?_)) λh=>ah ?_))
  ·exact qZ
  ·exact qZ
  ·exact iF
end
end
end Go.Proofs.YtffabbjfdgmbjaaGreat.C
namespace Go.ae
def EI{p:Prop}(h:p:=by rw [h];exact ah rfl):p:=h
end Go.ae
namespace Go.ae
def Qg:=@Bool.true_and
end Go.ae
namespace Go.Proofs.YtffabbjfdgmbjaaGreat.C
open Go Go.ae
section
variable{k:Int}
def eS(k:Int):Int:=bif k==2 then 1 else bif k==4 then 1 else bif k==5 then 1 else bif k==6 then 2 else bif k==11 then 1 else bif k==15 then 1 else 0
def toS(k:Int):Int:=bif k==2 then 1 else bif k==12 then 1 else bif k==13 then 1 else bif k==14 then 1 else 0
def lS(k:Int):Int:=bif k==4 then 2 else bif k==5 then 1 else bif k==6 then 1 else bif k==7 then 1 else bif k==9 then 1 else bif k==16 then 2 else bif k==17 then 3 else bif k==18 then 2 else bif k==19 then 1 else bif k==20 then 1 else 0
def eF(k:Int):Bool:=bif k==16 then true else bif k==17 then true else false
def lF(k:Int):Bool:=bif k==3 then true else false
def tP(k:Int):Nat:=bif k==9 then 1 else bif k==16 then 2 else bif k==19 then 3 else bif k==22 then 4 else 0
def zT(k:Int):Bool:=bif k==1 then true else bif k==2 then true else bif k==3 then true else bif k==4 then true else bif k==5 then true else bif k==6 then true else bif k==7 then true else bif k==8 then true else bif k==9 then true else bif k==10 then true else bif k==11 then true else bif k==12 then true else bif k==13 then true else bif k==14 then true else bif k==15 then true else bif k==16 then true else bif k==17 then true else bif k==18 then true else bif k==19 then true else bif k==20 then true else bif k==21 then true else bif k==22 then true else false
def L0(k e:Int):Int:=bif eF k then e else eS k
def Gr(k l:Int):Int:=bif lF k then l else lS k
def xS(f:dW)(k:Int):XF:=bif k==6 then{xz with O:=f.O,rev:=f.rev}else bif k==7 then{xz with N:=f.N}else bif k==8 then{xz with N:=f.N}else bif k==10 then{xz with N:=f.N}else bif k==14 then bif f.In then{xz with P:=f.P,entry:=f.entry,In:=f.In}else{xz with entry:=f.entry,In:=f.In}else bif k==15 then{xz with ow:=f.ow}else bif k==16 then{xz with T:=f.T,entry:=f.entry,mode:=f.mode}else bif k==17 then{xz with P:=f.P,entry:=f.entry,mode:=f.mode}else bif k==18 then{xz with entry:=f.entry}else bif k==19 then{xz with qO:=f.qO}else bif k==20 then{xz with P:=f.P}else bif k==21 then{xz with T:=f.T,entry:=f.entry,qQ:=f.qQ}else xz
abbrev kTs:AV:= .str (⟨#[116,115]⟩:ByteArray)
abbrev kDe:AV:= .str (⟨#[100,101,99,108,115]⟩:ByteArray)
abbrev kCa:AV:= .str (⟨#[99,97,108,108]⟩:ByteArray)
abbrev kAl:AV:= .str (⟨#[97,108,116,115]⟩:ByteArray)
def mpE(c:Nat):List (AV×AV):=bif c==1 then [(kTs,.bool true),(kDe,.bool true)]else bif c==2 then [(kCa,.bool true)]else bif c==3 then [(kAl,.bool true)]else bif c==4 then [(kTs,.bool true)]else []
abbrev rO(a:Nat)(k:Int)(x:XF):aD:=[.int .u8 k,iI x.N,iI x.O,iI x.T,iI x.P,iI x.entry,.bool x.In,.bool x.rev,.bool x.ow,.bool x.qO,.bool x.qQ,.int .u8 x.mode,.aa a,.aa (a+1),.aa (a+2),.aa (a+3),.aa (a+4),.aa (a+5),.aa (a+6),.aa (a+7),.aa (a+8)]
abbrev e9:aD:=[.U ax [],.U ax [],.U aL [],.U aL [],.U ak [],.U aZ [],.U bD [],.U bK [],.U bP []]
def xT(k:Int):Bool:=bif k==8 then true else k==10
def xU(k:Int):Bool:=bif k==12 then true else k==13
theorem kLC(k:Int):E (λN _=>Ni (FU CX EE N) N [.int .u8 k]) (0,[.bool (xT k)]):=
 cP ajm (aJ (λh=>ah (by simp only [xT,h,da])) λh=>ah (by simp only [xT,h,dj]))
theorem kGC(k:Int):E (λN _=>MX (FU CX EE N) N [.int .u8 k]) (0,[.bool (xU k)]):=
 cP aiu (aJ (λh=>ah (by simp only [xU,h,da])) λh=>ah (by simp only [xU,h,dj]))
theorem arK(h:xT k=true):k=8∨k=10:=by
 unfold xT at h;cases h1:k==8 with
 |true=>exact .inl (eq_of_beq h1)
 |false=>rw [h1]at h;exact .inr (eq_of_beq h)
theorem arL(h:xU k=true):k=12∨k=13:=by
 unfold xU at h;cases h1:k==12 with
 |true=>exact .inl (eq_of_beq h1)
 |false=>rw [h1]at h;exact .inr (eq_of_beq h)
theorem acF(h:xT k=false):(k==8)=false∧(k==10)=false:=by
 unfold xT at h;cases h1:k==8 with
 |true=>rw [h1]at h;cases h
 |false=>rw [h1]at h;exact⟨rfl,h⟩
theorem acH(h:xU k=false):(k==12)=false∧(k==13)=false:=by
 unfold xU at h;cases h1:k==12 with
 |true=>rw [h1]at h;cases h
 |false=>rw [h1]at h;exact⟨rfl,h⟩
section
variable (f:dW) (L D H A:aH)
abbrev SF:AV:= .agg (oq f L D H A)
theorem asx:E (λN _=>N1 (FU CX EE N) N ([iI 0,iI 0,iI 0,SF f L D H A,.agg (rO 3 f.kind xz),.U 0 (au [])]++e9))
 (bif zT f.kind then(0,[iI (L0 f.kind (ln (f.E.map bq))),iI (toS f.kind),iI (Gr f.kind (ln L)),SF f L D H A,.agg (rO 3 f.kind (xS f f.kind)),.U 0 (au (mpE (tP f.kind)))]++e9)else(1,[.bool false,SF f L D H A,.agg (rO 3 f.kind xz),.U 0 (au [])]++e9)):=by
 refine cP alq ?_;refine aJ (c:=f.kind==1) (λh1=> ?_) λh1=>aJ (c:=f.kind==2) (λh2=> ?_) λh2=>aJ (c:=f.kind==3) (λh3=> ?_) λh3=>aJ (c:=f.kind==4) (λh4=> ?_) λh4=>aJ (c:=f.kind==5) (λh5=> ?_) λh5=>aJ (c:=f.kind==6) (λh6=> ?_) λh6=>aJ (c:=f.kind==7) (λh7=> ?_) λh7=>ao (kLC f.kind) (aJ (c:=xT f.kind) (λhL=> ?_) λhL=>aJ (c:=f.kind==9) (λh9=> ?_) λh9=>aJ (c:=f.kind==11) (λAc=> ?_) λAc=>ao (kGC f.kind) (aJ (c:=xU f.kind) (λhC=> ?_) λhC=>aJ (c:=f.kind==14) (λLU=>aJ (c:=f.In) (λg=> ?_) λg=> ?_) λLU=>aJ (c:=f.kind==15) (λVd=> ?_) λVd=>aJ (c:=f.kind==16) (λVc=> ?_) λVc=>aJ (c:=f.kind==17) (λVb=> ?_) λVb=>aJ (c:=f.kind==18) (λVa=> ?_) λVa=>aJ (c:=f.kind==19) (λU9=> ?_) λU9=>aJ (c:=f.kind==20) (λU8=> ?_) λU8=>aJ (c:=f.kind==21) (λU7=> ?_) λU7=>aJ (c:=f.kind==22) (λU6=> ?_) λU6=> ?_))
 ·rw [eq_of_beq h1];exact ah rfl
 ·rw [eq_of_beq h2];exact ah rfl
 ·rw [eq_of_beq h3];exact ah rfl
 ·rw [eq_of_beq h4];exact ah rfl
 ·rw [eq_of_beq h5];exact ah rfl
 ·rw [eq_of_beq h6];exact ah rfl
 ·rw [eq_of_beq h7];exact ah rfl
 ·rcases arK hL with h|h
  ·exact EI
  ·exact EI
 ·rw [eq_of_beq h9];exact ah rfl
 ·rw [eq_of_beq Ac];exact ah rfl
 ·rcases arL hC with h|h
  ·exact EI
  ·exact EI
 ·rw [eq_of_beq LU,show xS f 14={xz with P:=f.P,entry:=f.entry,In:=f.In}by show(bif f.In then _ else _)=_;rw [g];rfl];exact ah rfl
 ·rw [eq_of_beq LU,show xS f 14={xz with entry:=f.entry,In:=f.In}by show(bif f.In then _ else _)=_;rw [g];rfl];exact ah rfl
 ·rw [eq_of_beq Vd];exact ah rfl
 ·rw [eq_of_beq Vc];exact ah rfl
 ·rw [eq_of_beq Vb];exact ah rfl
 ·rw [eq_of_beq Va];exact ah rfl
 ·rw [eq_of_beq U9];exact ah rfl
 ·rw [eq_of_beq U8];exact ah rfl
 ·rw [eq_of_beq U7];exact ah rfl
 ·rw [eq_of_beq U6];exact ah rfl
 ·rw [show zT f.kind=false by unfold zT;rw [h1,h2,h3,h4,h5,h6,h7,(acF hL).1,h9,(acF hL).2,Ac,(acH hC).1,(acH hC).2,LU,Vd,Vc,Vb,Va,U9,U8,U7,U6];rfl];exact ah rfl
def nH(f:dW)(L:aH):Bool:=xB f.kind f.x f.kind (xS f f.kind)&&((ln (f.E.map bq)==L0 f.kind (ln (f.E.map bq)))&&((ln (f.To.map eM)==toS f.kind)&&(ln L==Gr f.kind (ln L))))
theorem asw:E (λN _=>N0 (FU CX EE N) N ([iI (L0 f.kind (ln (f.E.map bq))),iI (toS f.kind),iI (Gr f.kind (ln L)),SF f L D H A,.agg (rO 3 f.kind f.x),.agg (rO 12 f.kind (xS f f.kind))]++(e9++e9)))
 (bif nH f L then(0,[SF f L D H A,.agg (rO 3 f.kind f.x),.agg (rO 12 f.kind (xS f f.kind))]++(e9++e9))else(1,[.bool false,SF f L D H A,.agg (rO 3 f.kind f.x),.agg (rO 12 f.kind (xS f f.kind))]++(e9++e9))):=by
 have hs:=smC (fz f.kind f.x) [] [] [] [] f.kind (xS f f.kind);rw [show Gg (fz f.kind f.x) [] [] [] [] f.kind (xS f f.kind)=xB f.kind f.x f.kind (xS f f.kind)by unfold Gg;rw [show lB (fz f.kind f.x) [] [] [] []=true from rfl,IL];rfl]at hs;refine cP alp ?_;refine ao hs (aJ (c:= !xB f.kind f.x f.kind (xS f f.kind)) (λh=>ah ?_) λh=>aJ (c:=ln (f.E.map bq) != L0 f.kind (ln (f.E.map bq))) (λh2=>ah ?_) λh2=>aJ (c:=ln (f.To.map eM) != toS f.kind) (λh3=>ah ?_) λh3=>aJ (c:=ln L != Gr f.kind (ln L)) (λh4=>ah ?_) λh4=>ah ?_)
 ·have:nH f L=false:=by unfold nH;simp only [nU]at h;rw [h];rfl
  exact jg
 ·have:nH f L=false:=by unfold nH;rw [nD h2];simp
  exact jg
 ·have:nH f L=false:=by unfold nH;rw [nD h3];simp
  exact jg
 ·have:nH f L=false:=by unfold nH;rw [nD h4];simp
  exact jg
 ·have:nH f L=true:=by unfold nH;simp only [nT]at h;rw [h,dF h2,dF h3,dF h4];rfl
  exact jg
def Lj(f:dW)(D H A:aH)(c:Nat):Bool:=
 (bif c==2 then true else bo (ln (f.oI.map bq)+ln (f.mi.map eM))==0)&&((bif (c==1||c==4)then true else ln (ints f.Ts)==0)&&((bif c==1 then true else bo (ln D+ln H)==0)&&(bif c==3 then true else ln A==0)))
theorem arB(k:Int):tP k=0∨tP k=1∨tP k=2∨tP k=3∨tP k=4:=by
 unfold tP;cases k==9<;>cases k==16<;>cases k==19<;>cases k==22<;>simp
theorem shC:Ev OL [SF f L D H A] (0,[.bool (zT f.kind&&(nH f L&&Lj f D H A (tP f.kind)))]):=by
 refine bu anh (ao (asx f L D H A) ?_);cases zT f.kind with
 |false=>exact pR
 |true=>
  refine bj rfl ?_;simp only [da];refine ao (asw f L D H A) ?_;cases nH f L with
  |false=>exact pR
  |true=>
   refine bj rfl ?_;simp only [da,Qg];unfold Lj;rcases arB f.kind with h|h|h|h|h<;>rw [h]
   ·refine aJ (c:=bo (ln (f.oI.map bq)+ln (f.mi.map eM))==0) (λa=>aJ (c:=ln (ints f.Ts)==0) (λb=>aJ (c:=bo (ln D+ln H)==0) (λc=>ah ?_) λc=>ah ?_) λb=>ah ?_) λa=>ah ?_
    ·rw [a,b,c];rfl
    ·rw [a,b,c];rfl
    ·rw [a,b];rfl
    ·rw [a];rfl
   ·refine aJ (c:=bo (ln (f.oI.map bq)+ln (f.mi.map eM))==0) (λa=>bj rfl (bj rfl (ah ?_))) λa=>ah ?_
    ·rw [a];rfl
    ·rw [a];rfl
   ·refine bj rfl (aJ (c:=ln (ints f.Ts)==0) (λb=>aJ (c:=bo (ln D+ln H)==0) (λc=>ah ?_) λc=>ah ?_) λb=>ah ?_)
    ·rw [b,c];rfl
    ·rw [b,c];rfl
    ·rw [b];rfl
   ·refine aJ (c:=bo (ln (f.oI.map bq)+ln (f.mi.map eM))==0) (λa=>aJ (c:=ln (ints f.Ts)==0) (λb=>aJ (c:=bo (ln D+ln H)==0) (λc=>bj rfl (ah ?_)) λc=>ah ?_) λb=>ah ?_) λa=>ah ?_
    ·rw [a,b,c];rfl
    ·rw [a,b,c];rfl
    ·rw [a,b];rfl
    ·rw [a];rfl
   ·refine aJ (c:=bo (ln (f.oI.map bq)+ln (f.mi.map eM))==0) (λa=>bj rfl (aJ (c:=bo (ln D+ln H)==0) (λc=>ah ?_) λc=>ah ?_)) λa=>ah ?_
    ·rw [a,c];rfl
    ·rw [a,c];rfl
    ·rw [a];rfl
end
end
section
variable (f:dW) (L D H A:aH)
def L3(k:Int):Bool:=bif k==16 then true else bif k==17 then true else bif k==18 then true else bif k==19 then true else bif k==15 then true else bif k==11 then true else bif k==12 then true else bif k==22 then true else k==21
def yb(f:dW):Bool:=bif L3 f.kind then true else bif f.kind==9 then decide (0<ln (ints f.Ts))else false
theorem ayW(k:Int):E (λN _=>N3 (FU CX EE N) N [.int .u8 k]) (0,[.bool (L3 k)]):=by
 refine cP als ?_;refine aJ (λh=>ah ?_) λh=>aJ (λh2=>ah ?_) λh2=>aJ (λh3=>ah ?_) λh3=>aJ (λh4=>ah ?_) λh4=>aJ (λh5=>ah ?_) λh5=>aJ (λh6=>ah ?_) λh6=>aJ (λh7=>ah ?_) λh7=>aJ (λh8=>ah ?_) λh8=>ah ?_<;>(try simp only [L3,h,da,dj])<;>(try simp only [h2,da,dj])<;>(try simp only [h3,da,dj])<;>(try simp only [h4,da,dj])<;>(try simp only [h5,da,dj])<;>(try simp only [h6,da,dj])<;>(try simp only [h7,da,dj])<;>(try simp only [h8,da,dj])
theorem blC:Ev HZ [SF f L D H A] (0,[.bool (yb f)]):=by
 refine bu amW (ao (ayW f.kind) (aJ (c:=L3 f.kind) (λh=>ah ?_) λh=>aJ (c:=f.kind==9) (λg=>ah ?_) λg=>ah ?_))
 ·unfold yb;rw [h];rfl
 ·unfold yb;rw [h,g];rfl
 ·unfold yb;rw [h,g];rfl
end
section
variable {p:PG} {ro:List RO} {w:WH} {cn:aH} (hc:au (aq cn)=cn) {lf:Int}
variable (f:dW) (L D H A:aH)
def ud(k:Int):Bool:=bif k==18 then true else bif k==19 then true else k==21
def xI(w:WH)(f:dW):Bool:=bif decide (0<ln (ints w.jf))then !yb f else true
def kP(w:WH)(f:dW):Bool:=
 xI w f&&bif ud f.kind then(!w.B8&& !w.rb)else bif f.kind==11 then true else bif f.kind==12 then true else bif !w.rb then true else !yb f
include hc in
theorem stC:Ev Ny [.agg (cw 0 w),SF f L D H A,K0 p lf,.U ai (cb ro),.U 0 cn] (0,.bool (kP w f)::lL p ro lf cn):=by
 have j6:E (λN _=>Nd (FU CX EE N) N [K0 p lf,.U ai (cb ro),.U 0 cn,.agg (cw 0 w),SF f L D H A]) (bif xI w f then(0,[K0 p lf,.U ai (cb ro),.U 0 cn,.agg (cw 0 w),SF f L D H A])else(1,[.bool false,K0 p lf,.U ai (cb ro),.U 0 cn,.agg (cw 0 w),SF f L D H A])):=by
  refine cP aji ?_;rw [hc];refine aJ (c:=decide (0<ln (ints w.jf))) (λh=>ao (blC f L D H A) (aJ (c:=yb f) (λg=>ah ?_) λg=>ah ?_)) λh=>ah ?_
  ·unfold xI;rw [h,g];rfl
  ·unfold xI;rw [h,g];rfl
  ·unfold xI;rw [h];rfl
 have aya:E (λN _=>MV (FU CX EE N) N [.int .u8 f.kind,K0 p lf,.U ai (cb ro),.U 0 cn]) (0,.bool (ud f.kind)::lL p ro lf cn):=by
  refine cP ais ?_;rw [hc];refine aJ (c:=f.kind==18) (λh=>ah ?_) λh=>aJ (c:=f.kind==19) (λh2=>ah ?_) λh2=>ah ?_
  ·unfold ud;rw [h];rfl
  ·unfold ud;rw [h,h2];rfl
  ·unfold ud;rw [h,h2];rfl
 let eX:UO:=bif ud f.kind then(1,[.bool (!w.B8&& !w.rb),K0 p lf,.U ai (cb ro),.U 0 cn,.agg (cw 0 w),SF f L D H A])else bif f.kind==11 then(1,[.bool true,K0 p lf,.U ai (cb ro),.U 0 cn,.agg (cw 0 w),SF f L D H A])else bif f.kind==12 then(1,[.bool true,K0 p lf,.U ai (cb ro),.U 0 cn,.agg (cw 0 w),SF f L D H A])else(0,[K0 p lf,.U ai (cb ro),.U 0 cn,.agg (cw 0 w),SF f L D H A])
 have xV:E (λN _=>M4 (FU CX EE N) N [K0 p lf,.U ai (cb ro),.U 0 cn,.agg (cw 0 w),SF f L D H A]) eX:=by
  refine cP aiN ?_;rw [hc];refine ao aya ?_;erw [hc];refine aJ (c:=ud f.kind) (λh=>aJ (c:= !w.B8) (λg=>ah ?_) λg=>ah ?_) λh=>aJ (c:=f.kind==11) (λg=>ah ?_) λg=>aJ (c:=f.kind==12) (λi=>ah ?_) λi=>ah ?_
  ·simp only [eX,h,g,da,Qg];rfl
  ·simp only [eX,h,g,da,uA];rfl
  ·simp only [eX,h,g,da,dj];rfl
  ·simp only [eX,h,g,i,da,dj];rfl
  ·simp only [eX,h,g,i,dj];rfl
 refine bu akl ?_;rw [hc];refine ao j6 ?_;cases h1:xI w f with
 |false=>refine aC rfl (ah ?_);erw [hc];unfold kP;rw [h1];rfl
 |true=>
  refine bj rfl ?_;simp only [da];erw [hc];refine ao xV ?_;cases h2:ud f.kind with
  |true=>
   simp only [eX,h2,da];refine aC rfl (ah ?_);erw [hc];unfold kP;rw [h1,h2];rfl
  |false=>
   cases h3:f.kind==11 with
   |true=>
    simp only [eX,h2,h3,da,dj];refine aC rfl (ah ?_);erw [hc];unfold kP;rw [h1,h2,h3];rfl
   |false=>
    cases h4:f.kind==12 with
    |true=>
     simp only [eX,h2,h3,h4,da,dj];refine aC rfl (ah ?_);erw [hc];unfold kP;rw [h1,h2,h3,h4];rfl
    |false=>
     simp only [eX,h2,h3,h4,dj];refine bj rfl ?_;erw [hc];refine aJ (c:= !w.rb) (λh=>ah ?_) λh=>ao (blC f L D H A) (ah ?_)
     ·unfold kP;rw [h1,h2,h3,h4,h];rfl
     ·unfold kP;rw [h1,h2,h3,h4,h];rfl
end
end Go.Proofs.YtffabbjfdgmbjaaGreat.C
namespace Go.ae
def abJ{p:Prop}(h:p:=by
 erw [hc,dx];refine ao (ax0 hw hc hx ht) (ah ?_);erw [hc];rfl):p:=h
end Go.ae
namespace Go.Proofs.YtffabbjfdgmbjaaGreat.C
open Go Go.ae
section
variable{e:CE}{s:SO}
abbrev cf(k:Int):dW:=⟨k,0,0,0,0,0,false,false,false,false,false,0,[],[],[],[],[]⟩
abbrev K5(o:Int)(e:CE):dW:={cf 2 with To:=[ox o],E:=[e]}
abbrev fE(k:Int)(e:CE):dW:={cf k with E:=[e]}
abbrev LX(u:Bool)(e:CE):dW:={cf 15 with ow:=u,E:=[e]}
abbrev pK(ts:bW):dW:={cf 9 with Ts:=ts}
abbrev sg(q:Int):dW:={cf 20 with P:=q}
def qF(f:dW)(L D H A:aH):Bool:=zT f.kind&&(nH f L&&Lj f D H A (tP f.kind))
section
variable {L D H A:aH}
theorem ap4:qF (cf 1) [] [] [] []=true:=by rfl
theorem ara(o:Int)(e:CE):qF (K5 o e) [] [] [] []=true:=by rfl
theorem arb:qF (cf 3) L [] [] []=true:=by
 unfold qF nH;rw [show(ln L==Gr 3 (ln L))=true from wk (ln L)];rfl
theorem apa(e:CE)(s:Row):qF (fE 5 e) [s] [] [] []=true:=by rfl
theorem apb(ts:bW)(s:Row):qF (pK ts) [s] D H []=true:=by rfl
theorem arc(e:CE):qF (fE 11 e) [] [] [] []=true:=by rfl
theorem apc(u:Bool)(e:CE):qF (LX u e) [] [] [] []=true:=by cases u<;>rfl
theorem ap5(q:Int)(s:Row):qF (sg q) [s] [] [] []=true:=by
 unfold qF nH;rw [show xB (sg q).kind (sg q).x (sg q).kind (xS (sg q) (sg q).kind)=(q==q)by simp [xB,xS,dW.x,xz],wk q];rfl
end
section
variable {p:PG} {ro:List RO} {w:WH} (hw:w.Ok) {cn:aH} (hc:au (aq cn)=cn) {lf:Int} {L D H A:aH}
def Rt(p:PG)(ro:List RO)(w:WH)(cn:aH)(f:dW)(L D H A:aH):Prop:=∀lf:Int,Ev NL [.agg (cw 0 w),SF f L D H A,K0 p lf,.U ai (cb ro),.U 0 cn] (0,.bool true::lL p ro lf cn)
include hw hc
theorem arf{o:Int}(hk:hZ p.bZ o 0=true)(hr:ib o ro.length=true)(hm:pY ro w o=true)(hl:gQ w.loops o=false)(hx:XE p ro w e s)(hp:(iw p.bZ o).ptr =false)(hf:vr s (iw p.bZ o)=true):Rt p ro w cn (K5 o e) L D H A:=λlf=>by
 refine bu Az (bj rfl (aV rfl ?_));rw [hc];refine ao (arp hw hc hk hr hm hl) (bj rfl (aV rfl ?_));erw [hc,dx];refine ao (atp hw hc hx (Zb hk) hp hf) (ah ?_);erw [hc];rfl
theorem apj(hx:XE p ro w e s)(ht:Fz s=true):Rt p ro w cn (fE 5 e) L D H A:=λlf=>by
 refine bu Az (aC rfl (aC rfl (bj rfl (aV rfl ?_))));rw [hc];erw [dx];refine ao (atB hw hc hx ht) (ah ?_);erw [hc];rfl
omit hw in
theorem Lo(k lf:Int):E (λN _=>MM (FU CX EE N) N [.int .u8 k,K0 p lf,.U ai (cb ro),.U 0 cn]) (0,.bool (bif k==11 then true else k==15)::lL p ro lf cn):=by
 refine cP ahU ?_;rw [hc];exact aJ (λh=>ah (iF)) λh=>ah (iF)
omit hw in
theorem rJ2(k lf:Int):E (λN _=>MI (FU CX EE N) N [.int .u8 k,K0 p lf,.U ai (cb ro),.U 0 cn]) (0,.bool (bif k==12 then true else k==13)::lL p ro lf cn):=by
 refine cP ahF ?_;rw [hc];exact aJ (λh=>ah (iF)) λh=>ah (iF)
theorem ari(hx:XE p ro w e s)(ht:s.ptr=false):Rt p ro w cn (fE 11 e) L D H A:=λlf=>by
 refine bu Az (aC rfl (aC rfl (aC rfl (aC rfl (aC rfl (aC rfl (aC rfl ?_)))))));rw [hc];refine ao (Lo hc 11 lf) (bj rfl (aV rfl ?_));exact abJ
theorem apk{u:Bool}(hx:XE p ro w e s)(ht:s.ptr=false):Rt p ro w cn (LX u e) L D H A:=λlf=>by
 refine bu Az (aC rfl (aC rfl (aC rfl (aC rfl (aC rfl (aC rfl (aC rfl ?_)))))));rw [hc];refine ao (Lo hc 15 lf) (bj rfl (aV rfl ?_));exact abJ
theorem ap7{q:Int}(h0:0<=q)(h1:q<(p.bS.length:Int))(ha:w.jf=[]):Rt p ro w cn (sg q) L D H A:=λlf=>by
 have kl:=D3 (l:=w.jf) q (by rw [ha];exact dX _);rw [ha]at kl;refine bu Az (aC rfl (aC rfl (aC rfl (aC rfl (aC rfl (aC rfl (aC rfl ?_)))))));rw [hc];refine ao (Lo hc 20 lf) (aC rfl ?_);erw [hc];refine ao (rJ2 hc 20 lf) (aC rfl (aC rfl (aC rfl (aC rfl (aC rfl (bj rfl ?_))))));erw [hc];refine bj (by show decide (0<=q)=true;simpa using h0) (bj (by show decide (q<ln (p.bS.map ie))=true;rw [fY];simpa using h1) ?_);refine ao (o:=(0,[.bool (gQ [] q)])) (by show Ev sO [.U ak (ints w.jf),iI q] _;rw [ha];exact kl) (bj rfl (bj (by show(ln (ints w.jf)==0)=true;rw [ha];rfl) (ah rfl)))
omit hw in
theorem PV{k:Int}{ts:bW}(h:k=1∨k=3∨k=9):Rt p ro w cn {cf k with Ts:=ts} L D H A:=λlf=>by
 rcases h with h|h|h
 all_goals
  subst h;refine bu Az (aC rfl (aC rfl (aC rfl (aC rfl (aC rfl (aC rfl (aC rfl ?_)))))));rw [hc];refine ao (Lo hc _ lf) (aC rfl ?_);erw [hc];refine ao (rJ2 hc _ lf) (aC rfl (aC rfl (aC rfl (aC rfl (aC rfl (aC rfl (aC rfl (aC rfl (ah ?_)))))))));erw [hc];rfl
end
end
section
variable{lf:Int}{l:List CS}
def AC(p:PG)(ro:List RO)(cn:aH)(w:WH)(s:CS):Prop:=∀lf:Int,(aE s:Int)<=lf->lf<=8192->
 Ev pC [.agg (cw 0 w),.agg (aX s),K0 p lf,.U ai (cb ro),.U 0 cn] (0,.bool true::lL p ro (lf- aE s) cn)
abbrev iE(w:WH):WH:={w with deep:=w.deep+1}
theorem QH(f:dW)(l:List CS)(d:List CD)(h:List CH)(a:List CA):AV.agg (aX (.mk f l d h a))=SF f (l.map aX) (d.map ed) (h.map mR) (a.map mh):=wN
theorem ta(f:dW)(l:List CS)(d:List CD)(h:List CH)(a:List CA):aE (.mk f l d h a)=1+(cR d+(cc l+(iU h+iJ a))):=Bj _
section
variable {p:PG} {ro:List RO} {w:WH} {cn:aH} (hc:au (aq cn)=cn) {f:dW} {L D H A:aH}
include hc
theorem hdC(hd:0<=w.deep∧w.deep<64)(hs:qF f L D H A=true)(ht:kP w f=true)(hr:Rt p ro w cn f L D H A)(h0:0<=lf):
 E (λN _=>Hx (FU CX EE N) N [K0 p lf,.U ai (cb ro),.U 0 cn,.agg (cw 0 w),SF f L D H A]) (0,W3 p ro lf cn w++[SF f L D H A]):=by
 have k1:=shC f L D H A;rw [show(zT f.kind&&(nH f L&&Lj f D H A (tP f.kind)))=true from hs]at k1;have k2:=stC (w:=w) (p:=p) (ro:=ro) (lf:=lf) hc f L D H A;rw [ht]at k2;refine cP ajO (aC (by show decide (lf<0)=false;simpa using h0) (aC (by show decide (64<=w.deep)=false;simpa using hd.2) ?_));rw [hc];refine ao k1 (aC rfl (ao k2 (aC rfl ?_)));erw [hc];refine ao (hr lf) (aC rfl (ah ?_));erw [hc];rfl
theorem RU(hd:0<=w.deep∧w.deep<64)(hs:qF f L D H A=true)(ht:kP w f=true)(hr:Rt p ro w cn f L D H A){r:UO}(h0:1<=lf)(h1:lf<=8192)
 (hk:E (λN _=>bO (yg (FU CX EE N) N [K0 p (lf- 1),.U ai (cb ro),.U 0 cn,.agg (cw 0 (iE w)),SF f L D H A]) λsr dG=>bif Nat.beq sr 0 then bO (FU CX EE N G0 [.U aZ (gR (gC dG 4) 17),.agg (sT (ab bh 0 (gC dG 3)) [(0,.ptr 1 0 0)]),.agg (sT (ab aI 0 (gC dG 0)) [(6,.aa 2),(8,.mp 3)]),.U ai (gR dG 1),.U 0 (au (aq (gR dG 2)))]) λ_ kR=>some (0,[.bool (!(gB kR 0)),.agg (sT (ab aI 0 (gC kR 2)) [(6,.aa 1),(8,.mp 2)]),.U ai (gR kR 3),.U 0 (au (aq (gR kR 4)))])else some (0,[.bool (gB dG 0),.agg (sT (ab aI 0 (gC dG 1)) [(6,.aa 1),(8,.mp 2)]),.U ai (gR dG 2),.U 0 (au (aq (gR dG 3)))])) r):
 Ev pC [.agg (cw 0 w),SF f L D H A,K0 p lf,.U ai (cb ro),.U 0 cn] r:=by
 have e1:bo (lf- 1)=lf- 1:=pI (by omega) (by omega);have e2:bo (w.deep+1)=w.deep+1:=pI (by omega) (by omega);refine bu ak5 ?_;rw [hc];have k:=hdC (lf:=lf- 1) hc hd hs ht hr (by omega);refine ao (o:=(0,W3 p ro (lf- 1) cn w++[SF f L D H A])) ?_ (bj rfl ?_)
 ·show E (λN _=>Hx (FU CX EE N) N [.agg [.U bE (ia p.bZ),iI (-1),.U bE (ia p.bZ),iI p.ry,.U cT (p.tasks.map bL),.U dN (p.bS.map ie),.aa 1,iI (bo (lf- 1)),.mp 2],_,_,_,_]) _;rw [e1];exact k
 ·erw [hc];show E (λN _=>bO (yg (FU CX EE N) N [_,_,_,.agg [.ptr 0 0 0,iI w.task,.U ak (ints w.marks),.U ak (ints w.yV),.U ak (ints w.uD),.U ak (ints w.jf),.U ak (ints w.loops),.bool w.B8,.bool w.rb,.bool w.IY,iI w.El,iI (bo (w.deep+1))],_]) _) _;rw [e2];exact hk
end
section
variable {p:PG} {ro:List RO} {w:WH} {cn:aH} (hc:au (aq cn)=cn)
include hc
theorem asO(hl:l.length<=mx)(h:∀s∈l,AC p ro cn w s)(h0:(cc l:Int)<=lf)(h1:lf<=8192):
 Ev G0 [.U aZ (l.map aX),.agg (cw 1 w),.agg (gz 2 3 p lf),.U ai (cb ro),.U 0 cn] (0,[.bool false,.agg (cw 1 w),.agg (gz 2 3 p (lf- cc l)),.U ai (cb ro),.U 0 cn]):=by
 have k:=gy (m:=l.length) (P:=λi=>∀lf:Int,(cc (l.drop i):Int)<=lf->lf<=8192->E (λN m=>G2 (FU CX EE N) N m [.U aZ (l.map aX),iI (ln (l.map aX)),iI (i:Int),.agg (cw 1 w),.agg (gz 2 3 p lf),.U ai (cb ro),.U 0 cn]) (1,[.agg (cw 1 w),.agg (gz 2 3 p (lf- cc (l.drop i))),.U ai (cb ro),.U 0 cn]))
  (λlf _ _=>by
    rw [nW];refine bx Vy (aC eJ (ah ?_));rw [hc,show lf-((cc []:Nat):Int)=lf by simp [cc]];rfl) λi hi ih lf g0 g1=>by
    have hm:=eH hi;rw [kG hi,show cc (l[i]::l.drop (i+1))=aE l[i]+cc (l.drop (i+1))from rfl]at g0⊢;have q:Ev Nx [.agg (aX l[i]),.agg (cw 1 w),.agg (gz 2 3 p lf),.U ai (cb ro),.U 0 cn] (0,[.bool false,.agg (cw 1 w),.agg (gz 2 3 p (lf- aE l[i])),.U ai (cb ro),.U 0 cn]):=by
     refine bu akk ?_;rw [hc,iT];refine ao (h _ hm lf (by omega) g1) (ah ?_);erw [hc];rfl
    refine bx Vy (bj (ew hi) (aV (ey hi) ?_));rw [hc,eT hi,iT,ix hi hl];refine ao q (aC rfl ?_);erw [hc];have:=ih (lf- aE l[i]) (by omega) (by omega);rw [show lf-((aE l[i]+cc (l.drop (i+1)):Nat):Int)=lf- aE l[i]- cc (l.drop (i+1))by omega];exact this
 have k:=k lf h0 h1;rw [uB]at k;have a1:Ev Mk [.U aZ (l.map aX),.agg (cw 1 w),.agg (gz 2 3 p lf),.U ai (cb ro),.U 0 cn] (0,[iI (-1),.agg (cw 1 w),.agg (gz 2 3 p (lf- cc l)),.U ai (cb ro),.U 0 cn]):=by
  refine bu agL ?_;exact abq
 refine bu agu ?_;rw [hc];refine ao a1 (ah ?_);erw [hc];rfl
theorem C3{f:dW}(hd:0<=w.deep∧w.deep<64)(hs:qF f (l.map aX) [] [] []=true)(ht:kP w f=true)(hr:Rt p ro w cn f (l.map aX) [] [] [])(hl:l.length<=mx)(hk:∀s∈l,AC p ro cn (iE w) s)
 (k9:(f.kind==9)=false) (k19:(f.kind==19)=false) (k18:(f.kind==18)=false) (k20:(f.kind==20)=false) (k17:(f.kind==17)=false) (k16:(f.kind==16)=false) (k7:(f.kind==7)=false) (k6:(f.kind==6)=false):AC p ro cn w (.mk f l [] [] []):=λlf h0 h1=>by
 have hn:aE (.mk f l [] [] [])=1+cc l:=by rw [ta];simp [cR,iU,iJ]
 rw [hn]at h0⊢;rw [QH];refine RU hc hd hs ht hr (by omega) h1 ?_;have j:E (λN _=>yg (FU CX EE N) N [K0 p (lf- 1),.U ai (cb ro),.U 0 cn,.agg (cw 0 (iE w)),SF f (l.map aX) [] [] []]) (0,W3 p ro (lf- 1) cn (iE w)++[SF f (l.map aX) [] [] []]):=by
  refine cP M7 (aC k9 (aC k19 (aC k18 (aC k20 (aC k17 (aC k16 (aC k7 (aC k6 (ah ?_)))))))));rw [hc];rfl
 refine ao j (bj rfl ?_);erw [hc];refine ao (asO hc hl hk (lf:=lf- 1) (by omega) (by omega)) (ah ?_);erw [hc];rw [show lf-((1+cc l:Nat):Int)=lf- 1- cc l by omega];rfl
end
end
section
variable{e:CE}{b:CS}{f:dW}{s:SO}
def LB(w:WH):WH:={w with marks:=[],IY:=false,El:= -1}
def Lc(w:WH)(q:Int):WH:={LB w with jf:=w.jf++[q]}
theorem aoB(l:bW)(e:Int):ints (l++[e])=ints l++[[iI e]]:=lX
theorem ar8(l:aH)(hl:l.length<=100000):E (λN _=>FI ak (FU CX EE N Au) (FU CX EE N As) (FU CX EE N HB) [.U ak l]) (0,[.U ak l]):=by
 cases l with
 |nil=>
  obtain⟨B,h1⟩:Ev Au [] (0,[.U ak []]):=bu ajq (ah rfl);obtain⟨C,h2⟩:Ev As [] (0,[.U ak []]):=bu ajp (ah rfl);refine⟨B+C,λN n hN _=> ?_⟩;have h1:FU CX EE N Au []=_:=h1 N N (by omega) (by omega);have h2:FU CX EE N As []=_:=h2 N N (by omega) (by omega);show(bif tC ak (FU CX EE N Au [])&&tC ak (FU CX EE N As [])then some (0,[AV.U ak []])else none)=_;rw [h1,h2];rfl
 |cons x xs=>
  have h:Ev HB [.U ak (x::xs)] (0,[.U ak (x::xs)]):=bu akD (aC rfl (aV (by simp at hl⊢;omega) (ah rfl)));exact h
section
variable {p:PG} {ro:List RO} {w:WH} (hw:w.Ok) {cn:aH} (hc:au (aq cn)=cn) {lf:Int}
theorem aso{l:bW}(e:Int)(hl:l.length<=1000):Ev AQ [.U ak (ints l),iI e] (0,[.U ak (ints (l++[e]))]):=by
 refine bu anO (ao (ar8 (ints l) (by rw [fI];omega)) (aV ?_ (ah ?_)))
 ·show decide (((ints l).length +1)*8<=140737488355328)=true;rw [fI];simp;omega
 ·rw [aoB];rfl
include hc in
theorem Tn:Ev Du [.agg (cw 0 w),K0 p lf,.U ai (cb ro),.U 0 cn] (0,.agg (cw 0 (LB w))::lL p ro lf cn):=by
 refine bu akG (ah ?_);rw [hc];rfl
include hw hc in
theorem ayZ(q:Int):Ev Hz [.agg (cw 0 w),iI q,K0 p lf,.U ai (cb ro),.U 0 cn] (0,[.agg (sT (cw 0 (Lc w q)) [(5,.aa 3)]),K0 p lf,.U ai (cb ro),.U 0 cn,.U ak (ints (w.jf++[q]))]):=by
 refine bu akn ?_;rw [hc];refine ao (Tn (lf:=lf) hc) (ao (aso (l:=w.jf) q hw.jf) (ah ?_));erw [hc];rfl
end
section
variable {p:PG} {ro:List RO} {w:WH} {cn:aH} (hc:au (aq cn)=cn)
theorem Bx{w:WH}(h:yb f=false)(ha:ud f.kind=false):kP w f=true:=by
 unfold kP xI;rw [h,ha];cases decide (0<ln (ints w.jf))<;>cases f.kind==11<;>cases f.kind==12<;>cases w.rb<;>rfl
theorem JJ{w:WH}(h1:w.jf=[])(h2:w.rb=false)(ha:ud f.kind=false):kP w f=true:=by
 unfold kP xI;rw [h1,h2,ha];cases f.kind==11<;>cases f.kind==12<;>rfl
abbrev eK:CS:= .mk (cf 1) [] [] [] []
abbrev cV(o:Int)(e:CE):CS:= .mk (K5 o e) [] [] [] []
abbrev ez(l:List CS):CS:= .mk (cf 3) l [] [] []
abbrev jw(e:CE)(s:CS):CS:= .mk (fE 5 e) [s] [] [] []
abbrev il(e:CE):CS:= .mk (fE 11 e) [] [] [] []
abbrev fv(u:Bool)(e:CE):CS:= .mk (LX u e) [] [] [] []
abbrev yY(q:Int)(s:CS):CS:= .mk (sg q) [s] [] [] []
abbrev eZ(ts:bW)(d:List CD)(s:CS):CS:= .mk (pK ts) [s] d [] []
variable (hd:0<=w.deep∧w.deep<64)
include hc hd
theorem I5:AC p ro cn w eK:=C3 hc hd ap4 (Bx rfl rfl) (PV (k:=1) (ts:=[]) hc (.inl rfl)) (dX _) (λs h=>dB) rfl rfl rfl rfl rfl rfl rfl rfl
theorem JH{l:List CS}(hl:l.length<=mx)(hk:∀s∈l,AC p ro cn (iE w) s):AC p ro cn w (ez l):=C3 hc hd arb (Bx rfl rfl) (PV (k:=3) (ts:=[]) hc (.inr (.inl rfl))) hl hk rfl rfl rfl rfl rfl rfl rfl rfl
theorem acW(hw:w.Ok){o:Int}(hk:hZ p.bZ o 0=true)(hr:ib o ro.length=true)(hm:pY ro w o=true)(hl:gQ w.loops o=false)(hx:XE p ro w e s)(hp:(iw p.bZ o).ptr =false)(hf:vr s (iw p.bZ o)=true):AC p ro cn w (cV o e):=
 C3 hc hd (ara o e) (Bx rfl rfl) (arf hw hc hk hr hm hl hx hp hf) (dX _) (λs h=>dB) rfl rfl rfl rfl rfl rfl rfl rfl
theorem ZN(hw:w.Ok)(hx:XE p ro w e s)(ht:Fz s=true)(hb:AC p ro cn (iE w) b):AC p ro cn w (jw e b):=
 C3 hc hd (apa e _) (Bx rfl rfl) (apj hw hc hx ht) (og) (λs h=>by rw [fB.1 h];exact hb) rfl rfl rfl rfl rfl rfl rfl rfl
theorem asl(hw:w.Ok)(ha:w.jf=[])(hu:w.rb=false)(hx:XE p ro w e s)(ht:s.ptr=false):AC p ro cn w (il e):=
 C3 hc hd (arc e) (JJ ha hu rfl) (ari hw hc hx ht) (dX _) (λs h=>dB) rfl rfl rfl rfl rfl rfl rfl rfl
theorem Qp(hw:w.Ok){u:Bool}(ha:w.jf=[])(hu:w.rb=false)(hx:XE p ro w e s)(ht:s.ptr=false):AC p ro cn w (fv u e):=
 C3 hc hd (apc u e) (JJ ha hu rfl) (apk hw hc hx ht) (dX _) (λs h=>dB) rfl rfl rfl rfl rfl rfl rfl rfl
theorem aqW(hw:w.Ok){q:Int}(h0:0<=q)(h1:q<(p.bS.length:Int))(ha:w.jf=[])(hb:AC p ro cn (Lc (iE w) q) b):AC p ro cn w (yY q b):=λlf g0 g1=>by
 have hn:aE (yY q b)=1+aE b:=by rw [ta];simp [cR,iU,iJ,cc]
 rw [hn]at g0⊢;rw [QH];refine RU hc hd (ap5 q _) (Bx rfl rfl) (ap7 hw hc h0 h1 ha) (by omega) g1 ?_;have Gv:(iE w).Ok :=⟨hw.marks,hw.yV,hw.uD,hw.jf,hw.loops⟩;have k:=hb (lf- 1) (by omega) (by omega);have j:E (λN _=>yg (FU CX EE N) N [K0 p (lf- 1),.U ai (cb ro),.U 0 cn,.agg (cw 0 (iE w)),SF (sg q) [aX b] [] [] []]) (1,.bool true::W3 p ro (lf- 1- aE b) cn (iE w)++[SF (sg q) [aX b] [] [] []]):=by
  refine cP M7 (aC rfl (aC rfl (aC rfl (bj rfl ?_))));rw [hc];refine ao (ayZ Gv hc (lf:=lf- 1) q) (aV rfl ?_);erw [hc,iT];refine ao k (ah ?_);erw [hc];rfl
 refine ao j (aC rfl (ah ?_));erw [hc];rw [show lf-((1+aE b:Nat):Int)=lf- 1- aE b by omega];rfl
end
end
section
variable{b:CS}{lf:Int}{ds:List CD}{ts:bW}
abbrev rM(w:WH):WH:={LB w with B8:=true}
abbrev tM(w:WH):WH:={LB w with rb:=true}
abbrev Cp(w:WH):WH:={w with El:= -1}
section
variable {p:PG} {ro:List RO} {w:WH} {cn lW:aH} (hc:au (aq cn)=cn) (gv:au (aq lW)=lW)
include hc in
theorem ar7(hl:ds.length<=mx)(h:∀d∈ds,AC p ro cn (rM w) d.d∧AC p ro cn (tM w) d.u)(h0:(cR ds:Int)<=lf)(h1:lf<=8192):
 E (λN m=>Dn (FU CX EE N) N m [.U bD (ds.map ed),iI (ln (ds.map ed)),iI 0,K0 p lf,.U ai (cb ro),.U 0 cn,.agg (cw 0 (rM w)),.agg (cw 0 (tM w))]) (1,lL p ro (lf- cR ds) cn++[.agg (cw 0 (rM w)),.agg (cw 0 (tM w))]):=by
 have k:=gy (m:=ds.length) (P:=λi=>∀lf:Int,(cR (ds.drop i):Int)<=lf->lf<=8192->E (λN m=>Dn (FU CX EE N) N m [.U bD (ds.map ed),iI (ln (ds.map ed)),iI (i:Int),K0 p lf,.U ai (cb ro),.U 0 cn,.agg (cw 0 (rM w)),.agg (cw 0 (tM w))]) (1,lL p ro (lf- cR (ds.drop i)) cn++[.agg (cw 0 (rM w)),.agg (cw 0 (tM w))]))
  (λlf _ _=>by
    rw [nW];refine bx Wh (aC eJ (ah ?_));rw [hc,show lf-((cR []:Nat):Int)=lf by simp [cR]];rfl) λi hi ih lf g0 g1=>by
    obtain⟨k1,k2⟩:=h _ (eH hi);have en:cR (ds.drop i)=aE ds[i].d +aE ds[i].u +cR (ds.drop (i+1)):=by
     rw [kG hi,show cR (ds[i]::ds.drop (i+1))=Lt ds[i]+cR (ds.drop (i+1))from rfl,Q6]
    rw [en]at g0⊢;refine bx Wh (bj (ew hi) (aV (ey hi) ?_));rw [hc,eT hi,SV,SU,ix hi hl];refine ao (k1 lf (by omega) g1) (aC rfl ?_);erw [hc];refine ao (k2 (lf- aE ds[i].d) (by omega) (by omega)) (aC rfl ?_);erw [hc];have:=ih (lf- aE ds[i].d - aE ds[i].u) (by omega) (by omega);rw [show lf-((aE ds[i].d +aE ds[i].u +cR (ds.drop (i+1)):Nat):Int)=lf- aE ds[i].d - aE ds[i].u - cR (ds.drop (i+1))by omega];exact this
 have k:=k lf h0 h1;rw [uB]at k;exact k
def L6(p:PG)(ro:List RO)(w:WH)(ts:bW)(cn lW:aH):Prop:=∀lf:Int,E (λN m=>Ax (FU CX EE N) N m [.U ak (ints ts),iI (ln (ints ts)),iI 0,K0 p lf,.U ai (cb ro),.U 0 cn,.agg (cw 0 w)]) (0,W3 p ro lf lW w)
include hc in
theorem aq2:L6 p ro w [] cn cn:=λlf=>by
 refine bx MZ (aC rfl (ah ?_));rw [hc];rfl
include hc gv in
theorem asc(hl:ds.length<=256)(CC:ts.length<=mx)(ht:L6 p ro w ts cn lW)(hu:nG ts (bo (w.task+1)) (bo (ln (p.tasks.map bL)- 1))=true)(h:∀d∈ds,AC p ro lW (rM w) d.d∧AC p ro lW (tM w) d.u)(hb:AC p ro lW (Cp w) b)(h0:(cR ds+aE b:Int)<=lf)(h1:lf<=8192):
 Ev NO [.agg (cw 0 w),SF (pK ts) [aX b] (ds.map ed) [] [],K0 p lf,.U ai (cb ro),.U 0 cn] (0,.bool true::lL p ro (lf- cR ds- aE b) lW):=by
 have ku:=atW (l:=ts) (bo (w.task+1)) (bo (ln (p.tasks.map bL)- 1)) CC;rw [hu]at ku;have j6:E (λN _=>Nr (FU CX EE N) N [K0 p lf,.U ai (cb ro),.U 0 cn,.agg (cw 0 w),SF (pK ts) [aX b] (ds.map ed) [] []]) (0,W3 p ro lf cn w++[SF (pK ts) [aX b] (ds.map ed) [] []]):=by
  refine cP ajP (aC (by show decide ((256:Int)<ln (ds.map ed))=false;rw [fY];simp;omega) (aC rfl ?_));rw [hc];exact ao ku (aC rfl (ah rfl))
 have xV:E (λN _=>Nh (FU CX EE N) N [K0 p lf,.U ai (cb ro),.U 0 cn,.agg (cw 0 w),SF (pK ts) [aX b] (ds.map ed) [] []]) (0,W3 p ro lf lW w++[SF (pK ts) [aX b] (ds.map ed) [] []]):=by
  refine cP ajl ?_;rw [hc];refine ao (ht lf).diag (ah ?_);erw [gv];rfl
 have ax9:E (λN _=>M6 (FU CX EE N) N [K0 p lf,.U ai (cb ro),.U 0 lW,SF (pK ts) [aX b] (ds.map ed) [] [],.agg (cw 0 (rM w)),.agg (cw 0 (tM w))]) (0,lL p ro (lf- cR ds) lW++[SF (pK ts) [aX b] (ds.map ed) [] [],.agg (cw 0 (rM w)),.agg (cw 0 (tM w))]):=by
  refine cP aiP ?_;rw [gv];refine ao (ar7 gv (mM) h (lf:=lf) (by omega) h1).diag (aC rfl (ah ?_));erw [gv];rfl
 refine bu akI ?_;rw [hc];refine ao j6 (bj rfl ?_);erw [hc];refine ao xV ?_;erw [gv];refine ao (Tn gv) ?_;erw [gv];refine ao (Tn gv) ?_;erw [gv];refine ao ax9 (bj rfl (aV rfl ?_));erw [gv,iT];refine ao (hb (lf- cR ds) (by omega) (by omega)) (aC rfl ?_);erw [gv];refine ao (o:=(1,lL p ro (lf- cR ds- aE b) lW++[.agg (cw 0 {w with IY:=true,El:= -1}),SF (pK ts) [aX b] (ds.map ed) [] [],.U 0 (au [])])) (E.diag (f:=λN m=>Hf (FU CX EE N) N m _) (bx ah8 (aC rfl (ah ?_)))) (aC rfl (ah ?_))
 ·erw [gv];rfl
 ·erw [gv];rfl
def AS(p:PG)(ro:List RO)(cn lW:aH)(w:WH)(s:CS):Prop:=∀lf:Int,(aE s:Int)<=lf->lf<=8192->
 Ev pC [.agg (cw 0 w),.agg (aX s),K0 p lf,.U ai (cb ro),.U 0 cn] (0,.bool true::lL p ro (lf- aE s) lW)
include hc gv in
theorem Qc(hd:0<=w.deep∧w.deep<64)(cY:kP w (pK ts)=true)(hl:ds.length<=256)(CC:ts.length<=mx)(ht:L6 p ro (iE w) ts cn lW)(hu:nG ts (bo (w.task+1)) (bo (ln (p.tasks.map bL)- 1))=true)(h:∀d∈ds,AC p ro lW (rM (iE w)) d.d∧AC p ro lW (tM (iE w)) d.u)(hb:AC p ro lW (Cp (iE w)) b):AS p ro cn lW w (eZ ts ds b):=λlf g0 g1=>by
 have hn:aE (eZ ts ds b)=1+(cR ds+aE b):=by rw [ta];simp [iU,iJ,cc]
 rw [hn]at g0⊢;rw [QH];refine RU hc hd (apb ts _) cY (PV (k:=9) (ts:=ts) hc (.inr (.inr rfl))) (by omega) g1 ?_;have j:E (λN _=>yg (FU CX EE N) N [K0 p (lf- 1),.U ai (cb ro),.U 0 cn,.agg (cw 0 (iE w)),SF (pK ts) [aX b] (ds.map ed) [] []]) (1,.bool true::W3 p ro (lf- 1- cR ds- aE b) lW (iE w)++[SF (pK ts) [aX b] (ds.map ed) [] []]):=by
  refine cP M7 (bj rfl ?_);rw [hc];refine ao (asc hc gv hl CC ht hu h hb (lf:=lf- 1) (by omega) (by omega)) (ah ?_);erw [gv];rfl
 refine ao j (aC rfl (ah ?_));erw [gv];rw [show lf-((1+(cR ds+aE b):Nat):Int)=lf- 1- cR ds- aE b by omega];rfl
include hc in
theorem Qo(hd:0<=w.deep∧w.deep<64)(hl:ds.length<=256)(h:∀d∈ds,AC p ro cn (rM (iE w)) d.d∧AC p ro cn (tM (iE w)) d.u)(hb:AC p ro cn (Cp (iE w)) b):AC p ro cn w (eZ [] ds b):=
 Qc hc hc hd (Bx rfl rfl) hl (dX _) (aq2 hc) rfl h hb
end
end
end Go.Proofs.YtffabbjfdgmbjaaGreat.C
namespace Go.ae
def Q8{p:Prop}(h:p:=by rw [x8];simp;omega):p:=h
end Go.ae
namespace Go.ae
def Eg:=@List.length_replicate
def PI:=@Int.add_zero
def Y1:=@List.take_append_of_le_length
end Go.ae
namespace Go.Proofs.YtffabbjfdgmbjaaGreat.C
open Go Go.ae
section
variable{n:Nat}
def ac1{n:Int}(h0:0<=n)(h1:n<18446744073709551616):IntKind.wrap .u64 n=n:=JT
def atH(h:n<4294967296):((BitVec.ofInt 64 (n:Int)&&&BitVec.ofInt 64 4294967295).toNat :Int)=n:=by
 rw [BitVec.toNat_and];have h1:(BitVec.ofInt 64 (n:Int)).toNat =n:=by
  rw [BitVec.toNat_ofInt];omega
 have h2:(BitVec.ofInt 64 4294967295).toNat =2^32- 1:=by rfl
 rw [h1,h2,Nat.and_two_pow_sub_one_eq_mod,PJ (by omega)]
def an6{n:Int}(h0:0<=n)(h:n<4294967296):Int.fdiv n (2^32)=0:=by
 rw [Int.fdiv_eq_ediv_of_nonneg _ (ea)];exact Int.ediv_eq_zero_of_lt h0 h
def ax2(h:n<4294967296):Ev N8 [.int .u64 1,.int .u64 (n:Int)] (0,[.int .u64 0,.int .u64 (n:Int)]):=by
 have h1:((BitVec.ofInt 64 1&&&BitVec.ofInt 64 4294967295).toNat :Int)=1:=by rfl
 have w0:IntKind.wrap .u64 0=0:=by rfl
 have w1:IntKind.wrap .u64 1=1:=by rfl
 have wn:IntKind.wrap .u64 (n:Int)=n:=ac1 (by omega) (by omega);have f1:Int.fdiv 1 (2^32)=0:=by rfl
 have f0:Int.fdiv 0 (2^32)=0:=by rfl
 have fn:Int.fdiv (n:Int) (2^32)=0:=an6 (by omega) (by omega);have a0:((BitVec.ofInt 64 0&&&BitVec.ofInt 64 4294967295).toNat :Int)=0:=by rfl
 have m:Ev NQ [.int .u64 1,.int .u64 (n:Int)] (0,[.int .u64 0,.int .u64 (n:Int)]):=by
  refine bu ak3 (ah ?_);rw [h1,atH h,f1,fn,Int.zero_mul,Int.zero_mul,w0,wn,w1,Int.one_mul,wn,fn,PI,w0,f0,PI,w0,a0,w0,Int.one_mul,w0,PI,w0,f0];rfl
 exact bu al4 (ao m (ah rfl))
abbrev zj:Row:=[iI (-1),iI (-1),iI (-1)]
abbrev Fu:Row:=[iI 0,iI 0,iI 0]
def rz(k m:Nat):aH:=List.replicate k zj++List.replicate m Fu
def aaF(k m:Nat):(rz k m).length =k+m:=by simp [rz]
def aaB{k m d:Nat}(h:d<=m):rF (rz k m) k (List.replicate d zj)=rz (k+d) (m- d):=by
 unfold rF rz;rw [Y1 (by simp),AW (by simp),Eg,List.drop_append,List.drop_eq_nil_of_le (by simp),jR,List.drop_replicate,Eg,Nat.add_sub_cancel_left,<-List.replicate_append_replicate]
def axH:∀(m k:Nat),1<=k->k+m<=2048->E (λN n=>Dj (FU CX EE N) N n [iI (k:Int),.U ai (rz k m)]) (0,[.U ai (rz (k+m) 0)]):=by
 intro m
 induction m using Nat.strongRecOn with
 |ind m ih=>
  intro k hk hb;have x8:ln (rz k m)=((k+m:Nat):Int):=by show(((rz k m).length :Nat):Int)=_;rw [aaF]
  refine bx ah7 ?_
  by_cases h0:m=0
  ·subst h0;exact aC (by rw [x8];simp) (ah rfl)
  ·refine bj (Q8) (aV (Q8) (aV (Q8) ?_));rw [wv,uB,aaF,show k+m- k=m by omega];have ht:(rz k m).take k=List.replicate k zj:=by
    unfold rz;rw [Y1 (by simp),AW (by simp)]
   have hd:qP (rz k m) k m (List.replicate k zj)=rz (k+min k m) (m- min k m):=by
    unfold qP;rw [List.take_replicate,Nat.min_comm m k];exact aaB (by omega)
   rw [ht,hd,Eg];have hw:bo ((k:Int)+((min k m:Nat):Int))=((k+min k m:Nat):Int):=BI;rw [hw];have:=ih (m- min k m) (by omega) (k+min k m) (by omega) (by omega);rw [show k+min k m+(m- min k m)=k+m by omega]at this;exact this
def are(n:Nat):rz n 0=cb (List.replicate n qG):=by
 unfold rz;show _=(List.replicate n qG).map oo;rw [List.map_replicate];exact mv _
def axI(h1:1<=n)(h2:n<=2048):Ev Nl [.U ai [zj],iI (n:Int)] (0,[.U ai (cb (List.replicate n qG))]):=by
 have j6:E (λN _=>M3 (FU CX EE N) N [iI (n:Int)]) (0,[]):=cP aiL (aC (by simp) (ah rfl));have Ul:E (λN _=>MU (FU CX EE N) N [.int .u64 0,.int .u64 (n:Int)]) (0,[]):=cP air (aC rfl (aC (eR) (ah rfl)));have wn:IntKind.wrap .u64 (n:Int)=n:=ac1 (by omega) (by omega);have w6:bo (n:Int)=n:=pI (by omega) (by omega);refine bu ajU (ao j6 ?_);rw [wn];refine ao (ax2 (n:=n) (by omega)) (ao Ul ?_);show E (λN _=>aB (decide (0<=bo (n:Int))&&decide (bo (n:Int)<=bo (n:Int))&&decide ((bo (n:Int))*24<=140737488355328))<|bO (Dj (FU CX EE N) N N [iI (((min 1 ((List.replicate ((bo (n:Int)).toNat) Fu).length):Nat):Int)),.U ai (qP (List.replicate ((bo (n:Int)).toNat) Fu) 0 ((List.replicate ((bo (n:Int)).toNat) Fu).length) [zj])]) λ_ o4=>some (0,[.U ai (gR o4 0)])) _;rw [w6,wv,Eg];have hc:qP (List.replicate n Fu) 0 n [zj]=rz 1 (n- 1):=by
  unfold qP;rw [AW (qu)];have:=aaB (k:=0) (m:=n) (d:=1) h1;simpa [rz]using this
 rw [hc,show min 1 n=1 by omega];refine aV (eR) (ao (axH (n- 1) 1 (by omega) (by omega)).diag (ah ?_));show(0,[AV.U ai (rz (1+(n- 1)) 0)])=_;rw [are,show 1+(n- 1)=n by omega]
end
end Go.Proofs.YtffabbjfdgmbjaaGreat.C
