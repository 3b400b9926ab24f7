/-
  Calls, on both sides.
-/
import Derived.Test.YtomkobcipaligaaGreatDoorW3
import Derived.KernelRfl
set_option linter.all false
set_option linter.deprecated false
set_option maxHeartbeats 4000000
namespace Go.Proofs.YtomkobcipaligaaGreatDoor
open Go Go.aA Qm
set_option maxRecDepth 100000
noncomputable section
variable {G:Nat->bl->Option UO} {N n:Nat} {i0 i1 i2 i3:Int} {l0 l1 l2 l3 l4:bl} {r0 r1 r2 r3 r4 r5 r6:aW} {zk DT:Nat}
def aAi:bZ CX EE G N Xg [J l0]=(bO (VI G N [bE (gI l0 0)]) λ_ o1=>bif gB o1 0 then bO (G ae0 [bS l0,J [bE (gI l0 0),bE 0,iI 0,iI 0,iI 0,iI 0,iI 0,iI 0,.aC 2],aT cy]) λ_ o2=>ae [J (sT (nL (gC o2 1)) [(8,aT (gR o2 2))]),iI 0]else bif gI l0 0==2 then bO (G NT [bS l0,J [bE (gI l0 0),bE 0,iI 0,iI 0,iI 0,iI 0,iI 0,iI 0,.aC 2],aT cy]) λ_ o3=>bO (G WB [bS (gC o3 0),J (sT (nN (gC o3 1)) oy),aT (gR o3 2)]) λ_ o4=>ae [J (sT (nL (gC o4 1)) [(8,aT (gR o4 2))]),iI 0]else bif gI l0 0==3 then bO (G NT [bS l0,J [bE (gI l0 0),bE 0,iI 0,iI 0,iI 0,iI 0,iI 0,iI 0,.aC 2],aT cy]) λ_ o5=>bO (G WB [bS (gC o5 0),J (sT (nN (gC o5 1)) oy),aT (gR o5 2)]) λ_ o6=>bO (G aeZ [bS (gC o6 0),J (sT (nN (gC o6 1)) oy),aT (gR o6 2)]) λ_ o7=>ae [J (sT (nL (gC o7 1)) [(8,aT (gR o7 2))]),iI 1]else bif gI l0 0==4 then bO (G WA [bS l0,J [bE (gI l0 0),bE 0,iI 0,iI 0,iI 0,iI 0,iI 0,iI 0,.aC 2],aT cy]) λ_ o8=>ae [J (sT (nL (gC o8 1)) [(8,aT (gR o8 2))]),iI 1]else bif gI l0 0==5 then bO (G WA [bS l0,J [bE (gI l0 0),bE 0,iI 0,iI 0,iI 0,iI 0,iI 0,iI 0,.aC 2],aT cy]) λ_ o9=>ae [J (sT (nL (gC o9 1)) [(8,aT (gR o9 2))]),iI 2]else bO (UP G N [bE (gI l0 0)]) λ_ cV=>bif gB cV 0 then ae [J [bE (gI l0 0),bE 0,iI 0,iI 0,iI 0,iI 0,iI 0,iI 0,aT ([])],iI 2]else bif gI l0 0==8 then ae [J [bE (gI l0 0),bE 0,iI 0,iI 0,iI 0,iI 0,iI 0,iI 0,aT ([])],iI 3]else bif gI l0 0==9 then bO (G aeY [bS l0,J [bE (gI l0 0),bE 0,iI 0,iI 0,iI 0,iI 0,iI 0,iI 0,.aC 2],aT cy]) λ_ cX=>ae [J (sT (nL (gC cX 1)) [(8,aT (gR cX 2))]),iI 1]else bif gI l0 0==12 then bO (G NT [bS l0,J [bE (gI l0 0),bE 0,iI 0,iI 0,iI 0,iI 0,iI 0,iI 0,.aC 2],aT cy]) λ_ dj=>ae [J (sT (nL (gC dj 1)) [(8,aT (gR dj 2))]),iI 0]else bif gI l0 0==13 then ae [J [bE (gI l0 0),bE 0,iI 0,iI 0,iI 0,iI 0,iI 0,iI 0,aT ([])],iI 1]else ae [J [bE (gI l0 0),bE 0,iI 0,iI 0,iI 0,iI 0,iI 0,iI 0,aT ([])],iI (-1)]:aJ):=by kernel_rfl
def atv:bZ CX EE G N Ig [dQ r0]=(bif r0.isEmpty then none else aR (lV ((0+r0.length)*48) 140737488355328)<|ae [dQ ((([]:aW))++r0)]:aJ):=by kernel_rfl
def arH:bZ CX EE G N BD []=(ae [dQ cy]:aJ):=by kernel_rfl
def arG:bZ CX EE G N BC []=(ae [dQ cy]:aJ):=by kernel_rfl
def aup:bZ CX EE G N BI [J l0,iI i1,iI i2]=(bif cg 0 i1 then bif aU i1 (ln (gR l0 0))then bif cg 0 i2 then bp i1 (gR l0 0)<|ae [ak (aU i2 (gI (aD (gR l0 0) i1) 0))]else bY else bY else bY:aJ):=by kernel_rfl
def awr:bZ CX EE G N Nq [J l0,iI i1,iI i2,iI i3]=(bif cg 0 i1 then bif aU i1 (ln (gR l0 0))then bp i1 (gR l0 0)<|bif !(gB (aD (gR l0 0) i1) 3)then bif cg 0 i2 then bif cg 1 i3 then bp i1 (gR l0 0)<|bif cg i2 (gI (aD (gR l0 0) i1) 0)then bp i1 (gR l0 0)<|ae [ak (cg i3 (bw ((gI (aD (gR l0 0) i1) 0)- i2)))]else bY else bY else bY else bY else bY else bY:aJ):=by kernel_rfl
def aBw:bZ CX EE G N yd []=(ae [J tq]:aJ):=by kernel_rfl
def avn:bZ CX EE G N rJ [J l0]=(bif !(gB l0 0)then bif cg 0 (gI l0 3)then ae [ak (cg (gI l0 4) 1)]else bY else bY:aJ):=by kernel_rfl
def aA2:bZ CX EE G N OQ []=(ae [J Ln]:aJ):=by kernel_rfl
def axx:Wv G N [J l0,J l1]=(bif !(gB l0 0)then ae [ak (!(gB l1 0)),cO l0,cO l1]else ae [aq,cO l0,cO l1]:aJ):=by kernel_rfl
def awk:V7 G N [bE i0]=(bif cg 1 i0 then ae [ak (cg i0 6)]else bY:aJ):=by kernel_rfl
def avg:VJ G N [bE i0]=(bif i0==7 then c9 else ae [ak (i0==8)]:aJ):=by kernel_rfl
def azv:bZ CX EE G N WZ [bE i0,J l1,J l2]=(bO (Wv G N [cO l1,cO l2]) λ_ o1=>bO (V7 G N [bE i0]) λ_ o2=>bif gB o2 0 then bO (G OQ []) λ_ o3=>ae [cO (gC o3 0),ak (gB o1 0)]else bO (VJ G N [bE i0]) λ_ o4=>bif gB o4 0 then bO (G yd []) λ_ o5=>bif gB o1 0 then ae [cO (gC o5 0),cw]else bif gB (gC o1 1) 0 then bif gB (gC o1 2) 0 then ae [cO (gC o5 0),cw]else ae [cO (gC o5 0),ak (gB (gC o1 2) 1)]else bif gB (gC o1 1) 1 then bif gB (gC o1 2) 0 then ae [cO (gC o5 0),cw]else ae [cO (gC o5 0),ak (gB (gC o1 2) 1)]else ae [cO (gC o5 0),aq]else bif cg 9 i0 then bif cg i0 12 then bO (G yd []) λ_ o6=>ae [cO (gC o6 0),ak (gB o1 0)]else bif cg 13 i0 then bif cg i0 15 then bO (G yd []) λ_ o7=>bO (G rJ [cO (gC o1 1)]) λ_ o8=>bif gB o8 0 then bO (G rJ [cO (gC o1 2)]) λ_ o9=>ae [cO (gC o7 0),ak (gB o9 0)]else ae [cO (gC o7 0),aq]else ae [J pG,aq]else ae [J pG,aq]else bif cg 13 i0 then bif cg i0 15 then bO (G yd []) λ_ cV=>bO (G rJ [cO (gC o1 1)]) λ_ cX=>bif gB cX 0 then bO (G rJ [cO (gC o1 2)]) λ_ dj=>ae [cO (gC cV 0),ak (gB dj 0)]else ae [cO (gC cV 0),aq]else ae [J pG,aq]else ae [J pG,aq]:aJ):=by kernel_rfl
def acI:Ep G N (n+1) [iI i0,.vw 0 zk DT,iI i2,aa r3]=(bif aU i2 ((DT:Int))then aR (cg 0 i2&&aU i2 (DT:Int))<|aR (dH (zk+i2.toNat) (r3.length))<|aR (cg 0 (bw (i2- 1))&&aU (bw (i2- 1)) (DT:Int))<|aR (dH (zk+((bw (i2- 1)).toNat)) (r3.length))<|bif gI (gA r3 (zk+i2.toNat)) 0 != gI (gA r3 (zk+((bw (i2- 1)).toNat))) 0 then aR (cg 0 i2&&aU i2 (DT:Int))<|aR (dH (zk+i2.toNat) (r3.length))<|bp i0 r3<|aR (dH (i0.toNat) (r3.length))<|Ep G N n [cC i0,.vw 0 zk DT,cC i2,aa (r3.set i0.toNat (setAt (aD r3 i0) 0 [iI (gI (gA r3 (zk+i2.toNat)) 0)]))]else Ep G N n [iI i0,.vw 0 zk DT,cC i2,aa r3]else ae [iI i0,aa r3]:aJ):=by kernel_rfl
def acJ:H5 G N (n+1) [iI i0,aa r1]=(bif aU i0 (ln r1)then bp i0 r1<|aR (dH (i0.toNat) (r1.length))<|bp (bw (i0- 1)) r1<|aR (dH ((bw (i0- 1)).toNat) (r1.length))<|bif gI (aD r1 i0) 0==gI (aD r1 (bw (i0- 1))) 0 then aR (cg 0 i0&&cg i0 (ln r1)&&cg (ln r1) (ln r1))<|bO (Ep G N N [iI i0,.vw 0 i0.toNat (r1.length- i0.toNat),iI 1,aa r1]) λ_ o1=>aR (cg 0 (gI o1 0)&&cg (gI o1 0) (ln (gR o1 1))&&cg (ln (gR o1 1)) (ln (gR o1 1)))<|aR (cg 0 (gI o1 0)&&cg (gI o1 0) (ln (pW ([iI 0]) (gR o1 1) ((gI o1 0).toNat) (((gR o1 1).length)-((gI o1 0).toNat))))&&cg (ln (pW ([iI 0]) (gR o1 1) ((gI o1 0).toNat) (((gR o1 1).length)-((gI o1 0).toNat)))) (ln (pW ([iI 0]) (gR o1 1) ((gI o1 0).toNat) (((gR o1 1).length)-((gI o1 0).toNat)))))<|ae [aa ((pW ([iI 0]) (gR o1 1) ((gI o1 0).toNat) (((gR o1 1).length)-((gI o1 0).toNat))).take ((gI o1 0).toNat))]else H5 G N n [cC i0,aa r1]else aN [aa r1]:aJ):=by kernel_rfl
def acO:bZ CX EE G N T8 [aa r0]=(bif aU (ln r0) 2 then ae [aa r0]else bO (H5 G N N [iI 1,aa r0]) λq2 o2=>bif bQ q2 then ae [aa (gR o2 0)]else ae [aa (gR o2 0)]:aJ):=by kernel_rfl
def axw:Wu G N [J l0,J l1,J l2,aa r3]=(bif !(gB l0 0)then bif !(gB l1 0)then aN [cw,cO l0,cO l1,J [aq,aq,.aC 3,iI (nz (gI l0 3) (gI l1 3)),iI (imax (gI l0 4) (gI l1 4))],aa cy]else ae [cO l0,cO l1,J (sT (eY l2) ox),aa r3]else ae [cO l0,cO l1,J (sT (eY l2) ox),aa r3]:aJ):=by kernel_rfl
def Vc:uX G N (n+1) [iI i0,iI i1,J l2,J l3,dQ r4,aa r5,aa r6]=(bif aU i1 i0 then bp i1 r4<|aR (dH (i1.toNat) (r4.length))<|bif !(gB (aD r4 i1) 0)then bif !(gB (aD r4 i1) 1)then ae [aq,J [aq,aq,.aC 3,iI 0,iI 0],J (sT (eY l3) nA),dQ r4,aa cy,aa r6]else bif gB (aD r4 i1) 0 then aR (zl r6 (gR (aD r4 i1) 2))<|uX G N n [iI i0,cC i1,J (sT (eY l2) ox),J (sT (eY l3) nA),dQ r4,aa r5,aa (r6++(gR (aD r4 i1) 2))]else uX G N n [iI i0,cC i1,J (sT (eY l2) ox),J (sT (eY l3) nA),dQ r4,aa r5,aa r6]else bif gB (aD r4 i1) 0 then aR (zl r6 (gR (aD r4 i1) 2))<|uX G N n [iI i0,cC i1,J (sT (eY l2) ox),J (sT (eY l3) nA),dQ r4,aa r5,aa (r6++(gR (aD r4 i1) 2))]else uX G N n [iI i0,cC i1,J (sT (eY l2) ox),J (sT (eY l3) nA),dQ r4,aa r5,aa r6]else aN [J (sT (eY l2) ox),J (sT (eY l3) nA),dQ r4,aa r5,aa r6]:aJ):=by kernel_rfl
def azt:bZ CX EE G N IU [J l0,J l1]=(bO (Wu G N [cO l0,cO l1,J [aq,aq,.aC 3,iI 0,iI 0],aa cy]) λq1 o1=>bif bQ q1 then bO (uX G N N [iI 2,iI 0,J (sT (eY (gC o1 2)) ox),J [cw,aq,.aC 4,iI 0,iI 0],dQ (([jF (gC o1 0),jF (gC o1 1)]:aW)),aa (gR o1 3),aa cy]) λq2 o2=>bif bQ q2 then ae [J (sT (eY (gC o2 1)) qW),ak (gB o2 0),aa (gR o2 4)]else bO (G MU [aa (gR o2 4)]) λ_ o3=>bO (G T8 [aa (gR o3 0)]) λ_ o4=>ae [J (sT (eY (gC o2 1)) qW),cw,aa (gR o4 0)]else ae [J (sT (eY (gC o1 3)) qW),ak (gB o1 0),aa (gR o1 4)]:aJ):=by kernel_rfl
def arF:ac6 G N [J l0,J l1,aa r2]=(bif !(gB l0 0)then bif !(gB l0 1)then aN [aq,cO l0,J [aq,aq,.aC 2,iI 0,iI 0],aa cy]else ae [cO l0,J (sT (eY l1) pF),aa r2]else ae [cO l0,J (sT (eY l1) pF),aa r2]:aJ):=by kernel_rfl
def acL:Et G N (n+1) [aa r0,iI i1,iI i2,J l3,J l4,aa r5]=(bif aU i2 i1 then bp i2 r0<|bp (gI (aD r0 i2) 0) (gR l3 0)<|bif i2==0 then Et G N n [aa r0,iI i1,cC i2,J [bJ (gR l3 0),iI (gI l3 1)],J [aq,aq,.aC 2,iI (nz (gI (aD (gR l3 0) (gI (aD r0 i2) 0)) 1) (gI (aD (gR l3 0) (gI (aD r0 i2) 0)) 1)),iI (imax (gI (aD (gR l3 0) (gI (aD r0 i2) 0)) 2) (gI (aD (gR l3 0) (gI (aD r0 i2) 0)) 2))],aa cy]else Et G N n [aa r0,iI i1,cC i2,J [bJ (gR l3 0),iI (gI l3 1)],J [ak (gB l4 0),ak (gB l4 1),.aC 2,iI (nz (gI l4 3) (gI (aD (gR l3 0) (gI (aD r0 i2) 0)) 1)),iI (imax (gI l4 4) (gI (aD (gR l3 0) (gI (aD r0 i2) 0)) 2))],aa r5]else ae [J [bJ (gR l3 0),iI (gI l3 1)],J (sT (eY l4) pF),aa r5]:aJ):=by kernel_rfl
def asT:bZ CX EE G N UE [J l0,J l1]=(bO (ac6 G N [cO l1,J [aq,aq,.aC 2,iI 0,iI 0],aa cy]) λq1 o1=>bif bQ q1 then bO (Et G N N [aa (gR (gC o1 0) 2),iI (ln (gR (gC o1 0) 2)),iI 0,J [bJ (gR l0 0),iI (gI l0 1)],J [aq,aq,.aC 2,iI 0,iI 0],aa cy]) λ_ o2=>ae [J (sT (eY (gC o2 1)) qW),cw,aa (gR o2 2)]else ae [J (sT (eY (gC o1 2)) qW),ak (gB o1 0),aa (gR o1 3)]:aJ):=by kernel_rfl
def asL:UM G N [iI i0,J l1,J l2,J l3,aa r4]=(bif i0 != ln (gR l1 8)then aN [aq,bS l1,J [aq,aq,.aC 3,iI 0,iI 0],bS l3,aa cy]else bif gI l3 2 != gI l1 2 then aN [aq,bS l1,J [aq,aq,.aC 3,iI 0,iI 0],bS l3,aa cy]else bif gI l3 1 != gI l1 1 then aN [aq,bS l1,J [aq,aq,.aC 3,iI 0,iI 0],bS l3,aa cy]else bif gI l3 3 != gI l1 3 then aN [aq,bS l1,J [aq,aq,.aC 3,iI 0,iI 0],bS l3,aa cy]else bif gI l3 4 != gI l1 4 then aN [aq,bS l1,J [aq,aq,.aC 3,iI 0,iI 0],bS l3,aa cy]else bif gI l3 5 != gI l1 5 then aN [aq,bS l1,J [aq,aq,.aC 3,iI 0,iI 0],bS l3,aa cy]else bif gI l3 6 != gI l1 6 then aN [aq,bS l1,J [aq,aq,.aC 3,iI 0,iI 0],bS l3,aa cy]else bif gI l3 7 != gI l1 7 then aN [aq,bS l1,J [aq,aq,.aC 3,iI 0,iI 0],bS l3,aa cy]else ae [bS l1,J (sT (eY l2) ox),bS l3,aa r4]:aJ):=by kernel_rfl
def arj:Uf G N [dQ r0,iI i1,dQ r2,J l3,dQ r4]=(bif gI l3 0==10 then bif i1==1 then bO (AM Fb (G BD) (G BC) (G Ig) [dQ r0]) λ_ o3=>aR (aU 0 (ln r4))<|aR (dH 0 (r4.length))<|aR (lV (((gR o3 0).length +(([jF (gA r4 0)]:aW)).length)*48) 140737488355328)<|ae [dQ ((gR o3 0)++(([jF (gA r4 0)]:aW))),bS l3,dQ r4]else ae [dQ r2,bS l3,dQ r4]else ae [dQ r2,bS l3,dQ r4]:aJ):=by kernel_rfl
end
noncomputable section
variable {G:Nat->bl->Option UO} {N n:Nat} {b0:Bool} {i0 i1 i2 i3:Int} {l0 l1 l2 l3 l4 l5 l6:bl} {r0 r1 r2 r4 r5 r7 r8:aW}
def ac0:wD G N (n+1) [dQ r0,aT r1,iI i2,iI i3,J l4,J l5,J l6,dQ r7,aa r8]=(bif aU i3 i2 then bp i3 r1<|bO (Uf G N [dQ r0,iI i3,dQ r0,bS l5,dQ r7]) λ_ o4=>bO (G Is [J [bJ (gR l4 0),iI (gI l4 1)],bS (aD r1 i3),dQ (gR o4 0)]) λ_ o5=>bif !(gB o5 1)then ae [aq,J [bJ (gR l4 0),iI (gI l4 1)],bS (gC o4 1),J [aq,aq,.aC 3,iI 0,iI 0],aa cy]else aR (lV (((gR o4 2).length +1)*48) 140737488355328)<|wD G N n [dQ r0,aT r1,iI i2,cC i3,J [bJ (gR l4 0),iI (gI l4 1)],bS (gC o4 1),J (sT (eY l6) nA),dQ ((gR o4 2)++(([jF (gC o5 0)]:aW))),aa r8]else aN [J [bJ (gR l4 0),iI (gI l4 1)],bS l5,J (sT (eY l6) nA),dQ r7,aa r8]:aJ):=by kernel_rfl
def asK:MY G N [dQ r0,J l1,J l2,J l3,dQ r4,aa r5]=(bO (wD G N N [dQ r0,aT (gR l2 8),iI (ln (gR l2 8)),iI 0,J [bJ (gR l1 0),iI (gI l1 1)],bS l2,J (sT (eY l3) nA),dQ r4,aa r5]) λq6 o6=>bif bQ q6 then aN [ak (gB o6 0),J [bJ (gR (gC o6 1) 0),iI (gI (gC o6 1) 1)],bS (gC o6 2),J (sT (eY (gC o6 3)) ox),aa (gR o6 4)]else ae [J [bJ (gR (gC o6 0) 0),iI (gI (gC o6 0) 1)],bS (gC o6 1),J (sT (eY (gC o6 2)) nA),dQ (gR o6 3),aa (gR o6 4)]:aJ):=by kernel_rfl
def aqT:T5 G N [bE i0]=(bif i0==6 then c9 else ae [ak (i0==7)]:aJ):=by kernel_rfl
def Vg:bZ CX EE G N Is [J l0,J l1,dQ r2]=(bO (G Xg [bS l1]) λ_ o1=>bO (UM G N [iI (gI o1 1),bS l1,J [aq,aq,.aC 3,iI 0,iI 0],bS (gC o1 0),aa cy]) λq2 o2=>bif bQ q2 then bO (MY G N [dQ r2,J [bJ (gR l0 0),iI (gI l0 1)],bS (gC o2 0),J (sT (eY (gC o2 1)) nA),dQ cy,aa (gR o2 3)]) λq7 o7=>bif bQ q7 then bif gI (gC o7 1) 0==1 then bif cg (-2147483648) (gI (gC o7 1) 2)then ae [J [aq,ak (gI (gC o7 1) 2==0),aa cy,iI (gI (gC o7 1) 2),iI (gI (gC o7 1) 2)],ak (cg (gI (gC o7 1) 2) 2147483647)]else ae [J [aq,ak (gI (gC o7 1) 2==0),aa cy,iI (gI (gC o7 1) 2),iI (gI (gC o7 1) 2)],aq]else bif gI (gC o7 1) 0==2 then bO (G BI [J [bJ (gR (gC o7 0) 0),iI (gI (gC o7 0) 1)],iI (gI (gC o7 1) 3),iI (gI (gC o7 1) 4)]) λ_ o8=>bif !(gB o8 0)then ae [J pG,aq]else bp (gI (gC o7 1) 3) (gR (gC o7 0) 0)<|ae [J [ak (gB (aD (gR (gC o7 0) 0) (gI (gC o7 1) 3)) 3),aq,aa (gR (aD (gR (gC o7 0) 0) (gI (gC o7 1) 3)) 4),iI (gI (aD (gR (gC o7 0) 0) (gI (gC o7 1) 3)) 1),iI (gI (aD (gR (gC o7 0) 0) (gI (gC o7 1) 3)) 2)],cw]else bif gI (gC o7 1) 0==3 then bO (G Nq [J [bJ (gR (gC o7 0) 0),iI (gI (gC o7 0) 1)],iI (gI (gC o7 1) 3),iI (gI (gC o7 1) 4),iI (gI (gC o7 1) 5)]) λ_ o9=>bif !(gB o9 0)then ae [J pG,aq]else aR (aU 0 (ln (gR o7 3)))<|aR (dH 0 ((gR o7 3).length))<|bif gB (gA (gR o7 3) 0) 0 then ae [J pG,aq]else bp (gI (gC o7 1) 3) (gR (gC o7 0) 0)<|bp (gI (gC o7 1) 3) (gR (gC o7 0) 0)<|ae [J [aq,aq,aa cy,iI (gI (aD (gR (gC o7 0) 0) (gI (gC o7 1) 3)) 1),iI (gI (aD (gR (gC o7 0) 0) (gI (gC o7 1) 3)) 2)],cw]else bif gI (gC o7 1) 0==4 then bif gI (gC o7 1) 1==18 then bO (G yd []) λ_ cV=>aR (aU 0 (ln (gR o7 3)))<|aR (dH 0 ((gR o7 3).length))<|bO (G rJ [cO (gA (gR o7 3) 0)]) λ_ cX=>ae [cO (gC cV 0),ak (gB cX 0)]else bO (G OQ []) λ_ dj=>bif gI (gC o7 1) 1==16 then aR (aU 0 (ln (gR o7 3)))<|aR (dH 0 ((gR o7 3).length))<|ae [cO (gC dj 0),ak (!(gB (gA (gR o7 3) 0) 0))]else bif gI (gC o7 1) 1==17 then aR (aU 0 (ln (gR o7 3)))<|aR (dH 0 ((gR o7 3).length))<|ae [cO (gC dj 0),ak (!(gB (gA (gR o7 3) 0) 0))]else ae [cO (gC dj 0),aq]else bif gI (gC o7 1) 0==5 then aR (aU 0 (ln (gR o7 3)))<|aR (dH 0 ((gR o7 3).length))<|aR (aU 1 (ln (gR o7 3)))<|aR (dH 1 ((gR o7 3).length))<|bO (G WZ [bE (gI (gC o7 1) 1),cO (gA (gR o7 3) 0),cO (gA (gR o7 3) 1)]) λ_ fe=>ae [cO (gC fe 0),ak (gB fe 1)]else bO (T5 G N [bE (gI (gC o7 1) 0)]) λ_ dc=>bif gB dc 0 then bO (G yd []) λ_ dr=>aR (aU 0 (ln (gR o7 3)))<|aR (dH 0 ((gR o7 3).length))<|bO (G rJ [cO (gA (gR o7 3) 0)]) λ_ fX=>bif gB fX 0 then aR (aU 1 (ln (gR o7 3)))<|aR (dH 1 ((gR o7 3).length))<|bO (G rJ [cO (gA (gR o7 3) 1)]) λ_ du=>ae [cO (gC dr 0),ak (gB du 0)]else ae [cO (gC dr 0),aq]else bif gI (gC o7 1) 0==8 then aR (aU 1 (ln (gR o7 3)))<|aR (dH 1 ((gR o7 3).length))<|aR (aU 2 (ln (gR o7 3)))<|aR (dH 2 ((gR o7 3).length))<|bO (G IU [cO (gA (gR o7 3) 1),cO (gA (gR o7 3) 2)]) λ_ gG=>bif gB gG 1 then aR (aU 0 (ln (gR o7 3)))<|aR (dH 0 ((gR o7 3).length))<|bO (G rJ [cO (gA (gR o7 3) 0)]) λ_ iH=>ae [J (sT (jF (gC gG 0)) [(2,aa (gR gG 2))]),ak (gB iH 0)]else ae [J (sT (jF (gC gG 0)) [(2,aa (gR gG 2))]),aq]else bif gI (gC o7 1) 0==9 then bif cg (-2147483648) (gI (gC o7 1) 6)then bif cg (gI (gC o7 1) 7) 2147483647 then bif cg (gI (gC o7 1) 6) (gI (gC o7 1) 7)then aR (aU 0 (ln (gR o7 3)))<|aR (dH 0 ((gR o7 3).length))<|ae [J [aq,aq,aa cy,iI (gI (gC o7 1) 6),iI (gI (gC o7 1) 7)],ak (!(gB (gA (gR o7 3) 0) 0))]else ae [J [aq,aq,aa cy,iI (gI (gC o7 1) 6),iI (gI (gC o7 1) 7)],aq]else ae [J [aq,aq,aa cy,iI (gI (gC o7 1) 6),iI (gI (gC o7 1) 7)],aq]else ae [J [aq,aq,aa cy,iI (gI (gC o7 1) 6),iI (gI (gC o7 1) 7)],aq]else bif gI (gC o7 1) 0==10 then aR (aU 1 (ln (gR o7 3)))<|aR (dH 1 ((gR o7 3).length))<|aR (aU 1 (ln ((gR o7 3).set 1 (setAt (gA (gR o7 3) 1) 1 [aq]))))<|aR (dH 1 (((gR o7 3).set 1 (setAt (gA (gR o7 3) 1) 1 [aq])).length))<|ae [cO (gA ((gR o7 3).set 1 (setAt (gA (gR o7 3) 1) 1 [aq])) 1),cw]else bif gI (gC o7 1) 0==11 then bif aU (gI (gC o7 1) 2) 0 then ae [J pG,aq]else bif cg (ln r2) (gI (gC o7 1) 2)then ae [J pG,aq]else bp (bw (bw (ln r2- 1)- gI (gC o7 1) 2)) r2<|ae [J (sT (jF (aD r2 (bw (bw (ln r2- 1)- gI (gC o7 1) 2)))) [(1,aq)]),cw]else bif gI (gC o7 1) 0==12 then bO (G BI [J [bJ (gR (gC o7 0) 0),iI (gI (gC o7 0) 1)],iI (gI (gC o7 1) 3),iI 0]) λ_ sj=>bif gB sj 0 then bp (gI (gC o7 1) 3) (gR (gC o7 0) 0)<|bif !(gB (aD (gR (gC o7 0) 0) (gI (gC o7 1) 3)) 3)then bp (gI (gC o7 1) 3) (gR (gC o7 0) 0)<|ae [J [cw,aq,aa (([[iI (gI (gC o7 1) 3)]]:aW)),iI 0,iI 0],ak (gI (aD (gR (gC o7 0) 0) (gI (gC o7 1) 3)) 0==1)]else ae [J [cw,aq,aa (([[iI (gI (gC o7 1) 3)]]:aW)),iI 0,iI 0],aq]else ae [J [cw,aq,aa (([[iI (gI (gC o7 1) 3)]]:aW)),iI 0,iI 0],aq]else bif gI (gC o7 1) 0==13 then aR (aU 0 (ln (gR o7 3)))<|aR (dH 0 ((gR o7 3).length))<|bO (G UE [J [bJ (gR (gC o7 0) 0),iI (gI (gC o7 0) 1)],cO (gA (gR o7 3) 0)]) λ_ iZ=>ae [J (sT (jF (gC iZ 0)) [(2,aa (gR iZ 2))]),ak (gB iZ 1)]else bif cg 0 (gI (gC o7 1) 2)then ae [J SU,ak (aU (gI (gC o7 1) 2) (gI (gC o7 0) 1))]else ae [J SU,aq]else ae [J (sT (jF (gC o7 3)) [(2,aa (gR o7 4))]),ak (gB o7 0)]else ae [J (sT (jF (gC o2 2)) [(2,aa (gR o2 4))]),ak (gB o2 0)]:aJ):=by kernel_rfl
def aeu:bZ CX EE G N Nz [J l0,J l1]=(bO (G I9 [bS l1,iI 0,J [iI 256]]) λ_ o1=>bif !(gB o1 0)then ae [J pG,aq]else bO (G Is [J [bJ (gR l0 0),iI (gI l0 1)],bS l1,dQ ([])]) λ_ o2=>ae [cO (gC o2 0),ak (gB o2 1)]:aJ):=by kernel_rfl
def acW:MN G N (n+1) [aa r0,iI i1,iI i2,iI i3]=(bif aU i3 i2 then bp i3 r0<|bif i1==gI (aD r0 i3) 0 then ae [iI i3]else MN G N n [aa r0,iI i1,iI i2,cC i3]else aN []:aJ):=by kernel_rfl
def adA:bZ CX EE G N adC [aa r0,iI i1]=(bO (MN G N N [aa r0,iI i1,iI (ln r0),iI 0]) λq1 o1=>bif bQ q1 then ae [iI (gI o1 0)]else ae [iI (-1)]:aJ):=by kernel_rfl
def ac5:bZ CX EE G N sD [aa r0,iI i1]=(bO (G adC [aa r0,iI i1]) λ_ o1=>ae [ak (cg 0 (gI o1 0))]:aJ):=by kernel_rfl
def ayE:bZ CX EE G N Wx [J l0,J l1,J l2]=(bO (G Ja [bJ (gR l1 0),aa (gR l2 0),bS l0]) λ_ o1=>ae [ak (!(gB o1 0)),J [bJ (gR l1 0)],J [aa (gR l2 0)]]:aJ):=by kernel_rfl
def ack:MC G N (n+1) [aT r0,iI i1,iI i2,J l3,J l4]=(bif aU i2 i1 then bp i2 r0<|bO (G Wx [bS (aD r0 i2),J [bJ (gR l3 0)],J [aa (gR l4 0)]]) λ_ o1=>bif gB o1 0 then ae [iI i2,J [bJ (gR (gC o1 1) 0)],J [aa (gR (gC o1 2) 0)]]else MC G N n [aT r0,iI i1,cC i2,J [bJ (gR (gC o1 1) 0)],J [aa (gR (gC o1 2) 0)]]else aN [J [bJ (gR l3 0)],J [aa (gR l4 0)]]:aJ):=by kernel_rfl
def acA:bZ CX EE G N TX [aT r0,J l1,J l2]=(bO (MC G N N [aT r0,iI (ln r0),iI 0,J [bJ (gR l1 0)],J [aa (gR l2 0)]]) λq2 o2=>bif bQ q2 then ae [iI (gI o2 0),J [bJ (gR (gC o2 1) 0)],J [aa (gR (gC o2 2) 0)]]else ae [iI (-1),J [bJ (gR (gC o2 0) 0)],J [aa (gR (gC o2 1) 0)]]:aJ):=by kernel_rfl
def aqf:bZ CX EE G N TS [aT r0,J l1,J l2]=(bO (G TX [aT r0,J [bJ (gR l1 0)],J [aa (gR l2 0)]]) λ_ o1=>ae [ak (cg 0 (gI o1 0)),J [bJ (gR (gC o1 1) 0)],J [aa (gR (gC o1 2) 0)]]:aJ):=by kernel_rfl
def awh:V4 G N [bE i0]=(bif i0==1 then c9 else bif i0==14 then c9 else bif i0==6 then c9 else ae [ak (i0==7)]:aJ):=by kernel_rfl
def axv:Ws G N [ak b0,J l1,J l2,J l3]=(bO (V4 G N [bE (gI l3 0)]) λ_ o1=>bif gB o1 0 then ae [cw,J [bJ (gR l1 0)],J [aa (gR l2 0)],bS l3]else bif gI l3 0==2 then bO (G sD [aa (gR l2 0),iI (gI l3 3)]) λ_ o2=>bif gB o2 0 then bp (gI l3 3) (gR l1 0)<|ae [ak (!(gB (aD (gR l1 0) (gI l3 3)) 3)),J [bJ (gR l1 0)],J [aa (gR l2 0)],bS l3]else ae [aq,J [bJ (gR l1 0)],J [aa (gR l2 0)],bS l3]else bif gI l3 0==4 then ae [ak (gI l3 1==18),J [bJ (gR l1 0)],J [aa (gR l2 0)],bS l3]else bif gI l3 0==5 then bif cg 7 (gI l3 1)then ae [ak (cg (gI l3 1) 15),J [bJ (gR l1 0)],J [aa (gR l2 0)],bS l3]else ae [aq,J [bJ (gR l1 0)],J [aa (gR l2 0)],bS l3]else ae [ak b0,J [bJ (gR l1 0)],J [aa (gR l2 0)],bS l3]:aJ):=by kernel_rfl
def afv:bZ CX EE G N Ja [bJ r0,aa r1,J l2]=(bO (Ws G N [aq,J [bJ r0],J [aa r1],bS l2]) λ_ o3=>bif gB o3 0 then bO (G TS [aT (gR (gC o3 3) 8),J [bJ (gR (gC o3 1) 0)],J [aa (gR (gC o3 2) 0)]]) λ_ o4=>ae [ak (!(gB o4 0))]else bY:aJ):=by kernel_rfl
def ap8:MB G N (n+1) [aT r0,aT r1,iI i2,iI i3]=(bif aU i3 i2 then bp i3 r1<|bp i3 r0<|bO (G ayk [bS (aD r1 i3),bS (aD r0 i3)]) λ_ o1=>bif !(gB o1 0)then bY else MB G N n [aT r0,aT r1,iI i2,cC i3]else aN []:aJ):=by kernel_rfl
def aqn:bZ CX EE G N MG [aT r0,aT r1]=(bif ln r0 != ln r1 then bY else bO (MB G N N [aT r1,aT r0,iI (ln r0),iI 0]) λq2 o2=>bif bQ q2 then ae [ak (gB o2 0)]else c9:aJ):=by kernel_rfl
def ar3:MO G N (n+1) [aa r0,aa r1,iI i2,iI i3]=(bif aU i3 i2 then bp i3 r0<|bp i3 r1<|bif gI (aD r0 i3) 0 != gI (aD r1 i3) 0 then bY else MO G N n [aa r0,aa r1,iI i2,cC i3]else aN []:aJ):=by kernel_rfl
def auh:bZ CX EE G N U9 [aa r0,aa r1]=(bif ln r0 != ln r1 then bY else bO (MO G N N [aa r0,aa r1,iI (ln r0),iI 0]) λq1 o1=>bif bQ q1 then ae [ak (gB o1 0)]else c9:aJ):=by kernel_rfl
def ap0:Mw G N (n+1) [bH r0,bH r1,iI i2,iI i3]=(bif aU i3 i2 then bp i3 r1<|bp i3 r0<|bO (G axg [eE (aD r1 i3),eE (aD r0 i3)]) λ_ o1=>bif !(gB o1 0)then bY else Mw G N n [bH r0,bH r1,iI i2,cC i3]else aN []:aJ):=by kernel_rfl
def aqi:bZ CX EE G N MD [bH r0,bH r1]=(bif ln r0 != ln r1 then bY else bO (Mw G N N [bH r1,bH r0,iI (ln r0),iI 0]) λq2 o2=>bif bQ q2 then ae [ak (gB o2 0)]else c9:aJ):=by kernel_rfl
def ap7:MA G N (n+1) [bC r0,bC r1,iI i2,iI i3]=(bif aU i3 i2 then bp i3 r1<|bp i3 r0<|bO (G IG [av (aD r1 i3),av (aD r0 i3)]) λ_ o1=>bif !(gB o1 0)then bY else MA G N n [bC r0,bC r1,iI i2,cC i3]else aN []:aJ):=by kernel_rfl
def aqm:bZ CX EE G N TV [bC r0,bC r1]=(bif ln r0 != ln r1 then bY else bO (MA G N N [bC r1,bC r0,iI (ln r0),iI 0]) λq2 o2=>bif bQ q2 then ae [ak (gB o2 0)]else c9:aJ):=by kernel_rfl
def apT:Mu G N (n+1) [dh r0,dh r1,iI i2,iI i3]=(bif aU i3 i2 then bp i3 r1<|bp i3 r0<|bO (G av3 [Wg (aD r1 i3),Wg (aD r0 i3)]) λ_ o1=>bif !(gB o1 0)then bY else Mu G N n [dh r0,dh r1,iI i2,cC i3]else aN []:aJ):=by kernel_rfl
def aqd:bZ CX EE G N TQ [dh r0,dh r1]=(bif ln r0 != ln r1 then bY else bO (Mu G N N [dh r1,dh r0,iI (ln r0),iI 0]) λq2 o2=>bif bQ q2 then ae [ak (gB o2 0)]else c9:aJ):=by kernel_rfl
def apI:Mq G N (n+1) [dg r0,dg r1,iI i2,iI i3]=(bif aU i3 i2 then bp i3 r1<|bp i3 r0<|bO (G av2 [oc (aD r1 i3),oc (aD r0 i3)]) λ_ o1=>bif !(gB o1 0)then bY else Mq G N n [dg r0,dg r1,iI i2,cC i3]else aN []:aJ):=by kernel_rfl
def apU:bZ CX EE G N TJ [dg r0,dg r1]=(bif ln r0 != ln r1 then bY else bO (Mq G N N [dg r1,dg r0,iI (ln r0),iI 0]) λq2 o2=>bif bQ q2 then ae [ak (gB o2 0)]else c9:aJ):=by kernel_rfl
def ap1:My G N (n+1) [c8 r0,c8 r1,iI i2,iI i3]=(bif aU i3 i2 then bp i3 r1<|bp i3 r0<|bO (G av1 [mD (aD r1 i3),mD (aD r0 i3)]) λ_ o1=>bif !(gB o1 0)then bY else My G N n [c8 r0,c8 r1,iI i2,cC i3]else aN []:aJ):=by kernel_rfl
def aqj:bZ CX EE G N TU [c8 r0,c8 r1]=(bif ln r0 != ln r1 then bY else bO (My G N N [c8 r1,c8 r0,iI (ln r0),iI 0]) λq2 o2=>bif bQ q2 then ae [ak (gB o2 0)]else c9:aJ):=by kernel_rfl
def aug:Vq G N [J l0,J l1]=(bif gI l0 0 != gI l1 0 then ae [cw,av l0,av l1]else bif gI l0 1 != gI l1 1 then ae [cw,av l0,av l1]else bif gI l0 2 != gI l1 2 then ae [cw,av l0,av l1]else bif gI l0 3 != gI l1 3 then ae [cw,av l0,av l1]else bif gI l0 4 != gI l1 4 then ae [cw,av l0,av l1]else bif gI l0 5 != gI l1 5 then ae [cw,av l0,av l1]else ae [ak (gI l0 11 != gI l1 11),av l0,av l1]:aJ):=by kernel_rfl
def atu:U7 G N [J l0,J l1]=(bif !((gB l0 6)==(gB l1 6))then ae [cw,av l0,av l1]else bif !((gB l0 7)==(gB l1 7))then ae [cw,av l0,av l1]else bif !((gB l0 8)==(gB l1 8))then ae [cw,av l0,av l1]else bif !((gB l0 9)==(gB l1 9))then ae [cw,av l0,av l1]else ae [ak (!((gB l0 10)==(gB l1 10))),av l0,av l1]:aJ):=by kernel_rfl
def att:U6 G N [J l0,J l1]=(bO (G MG [aT (gR l0 12),aT (gR l1 12)]) λ_ o3=>bif !(gB o3 0)then ae [cw,av l0,av l1]else bO (G MG [aT (gR l0 13),aT (gR l1 13)]) λ_ o4=>bif !(gB o4 0)then ae [cw,av l0,av l1]else bO (G U9 [aa (gR l0 16),aa (gR l1 16)]) λ_ o5=>ae [ak (!(gB o5 0)),av l0,av l1]:aJ):=by kernel_rfl
end
noncomputable section
variable {G:Nat->bl->Option UO} {N n:Nat} {i0 i1 i2:Int} {l0 l1 l3 l4 l5:bl} {r5 r6 r7 r8 r9 eH fE fD fC fq Be Bd Bc Bb Ba A9 DO DN DM:aW}
def avh:VK G N [J l0,J l1]=(bO (Vq G N [av l0,av l1]) λ_ o1=>bif gB o1 0 then aN [aq,av (gC o1 1),av (gC o1 2)]else bO (U7 G N [av (gC o1 1),av (gC o1 2)]) λ_ o2=>bif gB o2 0 then aN [aq,av (gC o2 1),av (gC o2 2)]else bO (U6 G N [av (gC o2 1),av (gC o2 2)]) λ_ o6=>bif gB o6 0 then aN [aq,av (gC o6 1),av (gC o6 2)]else bO (G MD [bH (gR (gC o6 1) 14),bH (gR (gC o6 2) 14)]) λ_ o7=>bif !(gB o7 0)then aN [aq,av (gC o6 1),av (gC o6 2)]else bO (G MD [bH (gR (gC o6 1) 15),bH (gR (gC o6 2) 15)]) λ_ o8=>bif !(gB o8 0)then aN [aq,av (gC o6 1),av (gC o6 2)]else bO (G TV [bC (gR (gC o6 1) 17),bC (gR (gC o6 2) 17)]) λ_ o9=>bif !(gB o9 0)then aN [aq,av (gC o6 1),av (gC o6 2)]else ae [av (gC o6 1),av (gC o6 2)]:aJ):=by kernel_rfl
def axF:bZ CX EE G N IG [J l0,J l1]=(bO (VK G N [av l0,av l1]) λmO cV=>bif bQ mO then bO (G TQ [dh (gR (gC cV 0) 18),dh (gR (gC cV 1) 18)]) λ_ cX=>bif gB cX 0 then bO (G TJ [dg (gR (gC cV 0) 19),dg (gR (gC cV 1) 19)]) λ_ dj=>bif gB dj 0 then bO (G TU [c8 (gR (gC cV 0) 20),c8 (gR (gC cV 1) 20)]) λ_ fe=>ae [ak (gB fe 0)]else bY else bY else ae [ak (gB cV 0)]:aJ):=by kernel_rfl
def ase:Uz G N [bE i0]=(bif i0==8 then c9 else ae [ak (i0==10)]:aJ):=by kernel_rfl
def ari:Ue G N [bE i0]=(bif i0==12 then c9 else ae [ak (i0==13)]:aJ):=by kernel_rfl
def awg:V3 G N [iI i0,iI i1,iI i2,J l3,J l4,.ab 0 r5,aT r6,aT r7,bH r8,bH r9,aa eH,bC fE,dh fD,dg fC,c8 fq]=(bif gI l3 0==1 then ae [iI i0,iI i1,iI i2,av l3,J (sT (fw l4) qe),.ab 0 (az (au r5)),aT r6,aT r7,bH r8,bH r9,aa eH,bC fE,dh fD,dg fC,c8 fq]else bif gI l3 0==2 then ae [iI 1,iI 1,iI i2,av l3,J (sT (fw l4) qe),.ab 0 (az (au r5)),aT r6,aT r7,bH r8,bH r9,aa eH,bC fE,dh fD,dg fC,c8 fq]else bif gI l3 0==3 then ae [iI i0,iI i1,iI (ln (gR l3 17)),av l3,J (sT (fw l4) qe),.ab 0 (az (au r5)),aT r6,aT r7,bH r8,bH r9,aa eH,bC fE,dh fD,dg fC,c8 fq]else bif gI l3 0==4 then ae [iI 1,iI i1,iI 2,av l3,J (sT (fw l4) qe),.ab 0 (az (au r5)),aT r6,aT r7,bH r8,bH r9,aa eH,bC fE,dh fD,dg fC,c8 fq]else bif gI l3 0==5 then ae [iI 1,iI i1,iI 1,av l3,J (sT (fw l4) qe),.ab 0 (az (au r5)),aT r6,aT r7,bH r8,bH r9,aa eH,bC fE,dh fD,dg fC,c8 fq]else bif gI l3 0==6 then ae [iI 2,iI i1,iI 1,av l3,J [bE (gI l4 0),iI (gI l4 1),iI (gI l3 2),iI (gI l4 3),iI (gI l4 4),iI (gI l4 5),ak (gB l4 6),ak (gB l3 7),ak (gB l4 8),ak (gB l4 9),ak (gB l4 10),bE (gI l4 11),.aC 3,.aC 4,.aC 5,.aC 6,.aC 7,.aC 8,.aC 9,.aC 10,.aC 11],.ab 0 (az (au r5)),aT r6,aT r7,bH r8,bH r9,aa eH,bC fE,dh fD,dg fC,c8 fq]else bif gI l3 0==7 then ae [iI i0,iI i1,iI 1,av l3,J (sT (fw l4) [(1,iI (gI l3 1)),(12,.aC 3),(13,.aC 4),(14,.aC 5),(15,.aC 6),(16,.aC 7),(17,.aC 8),(18,.aC 9),(19,.aC 10),(20,.aC 11)]),.ab 0 (az (au r5)),aT r6,aT r7,bH r8,bH r9,aa eH,bC fE,dh fD,dg fC,c8 fq]else bO (Uz G N [bE (gI l3 0)]) λ_ o1=>bif gB o1 0 then ae [iI i0,iI i1,iI i2,av l3,J (sT (fw l4) [(1,iI (gI l3 1)),(12,.aC 3),(13,.aC 4),(14,.aC 5),(15,.aC 6),(16,.aC 7),(17,.aC 8),(18,.aC 9),(19,.aC 10),(20,.aC 11)]),.ab 0 (az (au r5)),aT r6,aT r7,bH r8,bH r9,aa eH,bC fE,dh fD,dg fC,c8 fq]else bif gI l3 0==9 then ae [iI i0,iI i1,iI 1,av l3,J (sT (fw l4) qe),.ab 0 (az (aA.iV (aA.iV (au r5) (.str ((⟨#[116,115]⟩:ByteArray))) (cw)) (.str ((⟨#[100,101,99,108,115]⟩:ByteArray))) (cw))),aT r6,aT r7,bH r8,bH r9,aa eH,bC fE,dh fD,dg fC,c8 fq]else bif gI l3 0==11 then ae [iI 1,iI i1,iI i2,av l3,J (sT (fw l4) qe),.ab 0 (az (au r5)),aT r6,aT r7,bH r8,bH r9,aa eH,bC fE,dh fD,dg fC,c8 fq]else bO (Ue G N [bE (gI l3 0)]) λ_ o2=>bif gB o2 0 then ae [iI i0,iI 1,iI i2,av l3,J (sT (fw l4) qe),.ab 0 (az (au r5)),aT r6,aT r7,bH r8,bH r9,aa eH,bC fE,dh fD,dg fC,c8 fq]else bif gI l3 0==14 then bif gB l3 6 then ae [iI i0,iI 1,iI i2,av l3,J [bE (gI l4 0),iI (gI l4 1),iI (gI l4 2),iI (gI l4 3),iI (gI l3 4),iI (gI l3 5),ak (gB l3 6),ak (gB l4 7),ak (gB l4 8),ak (gB l4 9),ak (gB l4 10),bE (gI l4 11),.aC 3,.aC 4,.aC 5,.aC 6,.aC 7,.aC 8,.aC 9,.aC 10,.aC 11],.ab 0 (az (au r5)),aT r6,aT r7,bH r8,bH r9,aa eH,bC fE,dh fD,dg fC,c8 fq]else ae [iI i0,iI 1,iI i2,av l3,J [bE (gI l4 0),iI (gI l4 1),iI (gI l4 2),iI (gI l4 3),iI (gI l4 4),iI (gI l3 5),ak (gB l3 6),ak (gB l4 7),ak (gB l4 8),ak (gB l4 9),ak (gB l4 10),bE (gI l4 11),.aC 3,.aC 4,.aC 5,.aC 6,.aC 7,.aC 8,.aC 9,.aC 10,.aC 11],.ab 0 (az (au r5)),aT r6,aT r7,bH r8,bH r9,aa eH,bC fE,dh fD,dg fC,c8 fq]else bif gI l3 0==15 then ae [iI 1,iI i1,iI i2,av l3,J (sT (fw l4) [(8,ak (gB l3 8)),(12,.aC 3),(13,.aC 4),(14,.aC 5),(15,.aC 6),(16,.aC 7),(17,.aC 8),(18,.aC 9),(19,.aC 10),(20,.aC 11)]),.ab 0 (az (au r5)),aT r6,aT r7,bH r8,bH r9,aa eH,bC fE,dh fD,dg fC,c8 fq]else bif gI l3 0==16 then ae [iI (ln (gR l3 12)),iI i1,iI 2,av l3,J [bE (gI l4 0),iI (gI l4 1),iI (gI l4 2),iI (gI l3 3),iI (gI l4 4),iI (gI l3 5),ak (gB l4 6),ak (gB l4 7),ak (gB l4 8),ak (gB l4 9),ak (gB l4 10),bE (gI l3 11),.aC 3,.aC 4,.aC 5,.aC 6,.aC 7,.aC 8,.aC 9,.aC 10,.aC 11],.ab 0 (az (aA.iV (au r5) (.str ((⟨#[99,97,108,108]⟩:ByteArray))) (cw))),aT r6,aT r7,bH r8,bH r9,aa eH,bC fE,dh fD,dg fC,c8 fq]else bif gI l3 0==17 then ae [iI (ln (gR l3 12)),iI i1,iI 3,av l3,J [bE (gI l4 0),iI (gI l4 1),iI (gI l4 2),iI (gI l4 3),iI (gI l3 4),iI (gI l3 5),ak (gB l4 6),ak (gB l4 7),ak (gB l4 8),ak (gB l4 9),ak (gB l4 10),bE (gI l3 11),.aC 3,.aC 4,.aC 5,.aC 6,.aC 7,.aC 8,.aC 9,.aC 10,.aC 11],.ab 0 (az (au r5)),aT r6,aT r7,bH r8,bH r9,aa eH,bC fE,dh fD,dg fC,c8 fq]else bif gI l3 0==18 then ae [iI i0,iI i1,iI 2,av l3,J (sT (fw l4) [(5,iI (gI l3 5)),(12,.aC 3),(13,.aC 4),(14,.aC 5),(15,.aC 6),(16,.aC 7),(17,.aC 8),(18,.aC 9),(19,.aC 10),(20,.aC 11)]),.ab 0 (az (au r5)),aT r6,aT r7,bH r8,bH r9,aa eH,bC fE,dh fD,dg fC,c8 fq]else bif gI l3 0==19 then ae [iI i0,iI i1,iI 1,av l3,J (sT (fw l4) [(9,ak (gB l3 9)),(12,.aC 3),(13,.aC 4),(14,.aC 5),(15,.aC 6),(16,.aC 7),(17,.aC 8),(18,.aC 9),(19,.aC 10),(20,.aC 11)]),.ab 0 (az (aA.iV (au r5) (.str ((⟨#[97,108,116,115]⟩:ByteArray))) (cw))),aT r6,aT r7,bH r8,bH r9,aa eH,bC fE,dh fD,dg fC,c8 fq]else bif gI l3 0==20 then ae [iI i0,iI i1,iI 1,av l3,J (sT (fw l4) [(4,iI (gI l3 4)),(12,.aC 3),(13,.aC 4),(14,.aC 5),(15,.aC 6),(16,.aC 7),(17,.aC 8),(18,.aC 9),(19,.aC 10),(20,.aC 11)]),.ab 0 (az (au r5)),aT r6,aT r7,bH r8,bH r9,aa eH,bC fE,dh fD,dg fC,c8 fq]else bif gI l3 0==21 then ae [iI i0,iI i1,iI i2,av l3,J [bE (gI l4 0),iI (gI l4 1),iI (gI l4 2),iI (gI l3 3),iI (gI l4 4),iI (gI l3 5),ak (gB l4 6),ak (gB l4 7),ak (gB l4 8),ak (gB l4 9),ak (gB l3 10),bE (gI l4 11),.aC 3,.aC 4,.aC 5,.aC 6,.aC 7,.aC 8,.aC 9,.aC 10,.aC 11],.ab 0 (az (au r5)),aT r6,aT r7,bH r8,bH r9,aa eH,bC fE,dh fD,dg fC,c8 fq]else bif gI l3 0==22 then ae [iI i0,iI i1,iI i2,av l3,J (sT (fw l4) qe),.ab 0 (az (aA.iV (au r5) (.str ((⟨#[116,115]⟩:ByteArray))) (cw))),aT r6,aT r7,bH r8,bH r9,aa eH,bC fE,dh fD,dg fC,c8 fq]else aN [aq,av l3,J (sT (fw l4) qe),.ab 0 (az (au r5)),aT r6,aT r7,bH r8,bH r9,aa eH,bC fE,dh fD,dg fC,c8 fq]:aJ):=by kernel_rfl
def awf:V2 G N [iI i0,iI i1,iI i2,J l3,J l4,J l5,aT r6,aT r7,bH r8,bH r9,aa eH,bC fE,dh fD,dg fC,c8 fq,aT Be,aT Bd,bH Bc,bH Bb,aa Ba,bC A9,dh DO,dg DN,c8 DM]=(bO (G IG [J (sT (dJ l4) [(12,aT r6),(13,aT r7),(14,bH r8),(15,bH r9),(16,aa eH),(17,bC fE),(18,dh fD),(19,dg fC),(20,c8 fq)]),J (sT (dJ l5) [(12,aT Be),(13,aT Bd),(14,bH Bc),(15,bH Bb),(16,aa Ba),(17,bC A9),(18,dh DO),(19,dg DN),(20,c8 DM)])]) λ_ o4=>bif !(gB o4 0)then aN [aq,av l3,J (sT (fw l4) qe),J (sT (fw l5) GG),aT r6,aT r7,bH r8,bH r9,aa eH,bC fE,dh fD,dg fC,c8 fq,aT Be,aT Bd,bH Bc,bH Bb,aa Ba,bC A9,dh DO,dg DN,c8 DM]else bif ln (gR l3 12) != i0 then aN [aq,av l3,J (sT (fw l4) qe),J (sT (fw l5) GG),aT r6,aT r7,bH r8,bH r9,aa eH,bC fE,dh fD,dg fC,c8 fq,aT Be,aT Bd,bH Bc,bH Bb,aa Ba,bC A9,dh DO,dg DN,c8 DM]else bif ln (gR l3 14) != i1 then aN [aq,av l3,J (sT (fw l4) qe),J (sT (fw l5) GG),aT r6,aT r7,bH r8,bH r9,aa eH,bC fE,dh fD,dg fC,c8 fq,aT Be,aT Bd,bH Bc,bH Bb,aa Ba,bC A9,dh DO,dg DN,c8 DM]else bif ln (gR l3 17) != i2 then aN [aq,av l3,J (sT (fw l4) qe),J (sT (fw l5) GG),aT r6,aT r7,bH r8,bH r9,aa eH,bC fE,dh fD,dg fC,c8 fq,aT Be,aT Bd,bH Bc,bH Bb,aa Ba,bC A9,dh DO,dg DN,c8 DM]else ae [av l3,J (sT (fw l4) qe),J (sT (fw l5) GG),aT r6,aT r7,bH r8,bH r9,aa eH,bC fE,dh fD,dg fC,c8 fq,aT Be,aT Bd,bH Bc,bH Bb,aa Ba,bC A9,dh DO,dg DN,c8 DM]:aJ):=by kernel_rfl
end
noncomputable section
variable {G:Nat->bl->Option UO} {N n:Nat} {i0 i1 i2:Int} {l0 l1 l2 l3 l4:bl} {r0 r1 r2 r3 r4 r5 r6:aW}
def aAg:bZ CX EE G N Ox [J l0]=(bO (V3 G N [iI 0,iI 0,iI 0,av l0,J [bE (gI l0 0),iI 0,iI 0,iI 0,iI 0,iI 0,aq,aq,aq,aq,aq,bE 0,.aC 3,.aC 4,.aC 5,.aC 6,.aC 7,.aC 8,.aC 9,.aC 10,.aC 11],.ab 0 (az (([]:List (AV×AV)))),aT cy,aT cy,bH cy,bH cy,aa cy,bC cy,dh cy,dg cy,c8 cy]) λq3 o3=>bif bQ q3 then bO (V2 G N [iI (gI o3 0),iI (gI o3 1),iI (gI o3 2),av (gC o3 3),J (sT (fw l0) qe),J (sT (fw (gC o3 4)) GG),aT cy,aT cy,bH cy,bH cy,aa cy,bC cy,dh cy,dg cy,c8 cy,aT (gR o3 6),aT (gR o3 7),bH (gR o3 8),bH (gR o3 9),aa (gR o3 10),bC (gR o3 11),dh (gR o3 12),dg (gR o3 13),c8 (gR o3 14)]) λq5 o5=>bif bQ q5 then match aA.dR (au (gR o3 5)) (.str ((⟨#[99,97,108,108]⟩:ByteArray)))with|some m6=>(bif m6.toB then match aA.dR (au (gR o3 5)) (.str ((⟨#[116,115]⟩:ByteArray)))with|some m7=>(bif m7.toB then match aA.dR (au (gR o3 5)) (.str ((⟨#[100,101,99,108,115]⟩:ByteArray)))with|some m8=>(bif m8.toB then match aA.dR (au (gR o3 5)) (.str ((⟨#[97,108,116,115]⟩:ByteArray)))with|some m9=>(bif m9.toB then c9 else ae [ak (ln (gR (gC o5 0) 20)==0)])|none=>(ae [ak (ln (gR (gC o5 0) 20)==0)])else bif bw ((ln (gR (gC o5 0) 18))+(ln (gR (gC o5 0) 19)))==0 then match aA.dR (au (gR o3 5)) (.str ((⟨#[97,108,116,115]⟩:ByteArray)))with|some m10=>(bif m10.toB then c9 else ae [ak (ln (gR (gC o5 0) 20)==0)])|none=>(ae [ak (ln (gR (gC o5 0) 20)==0)])else bY)|none=>(bif bw ((ln (gR (gC o5 0) 18))+(ln (gR (gC o5 0) 19)))==0 then match aA.dR (au (gR o3 5)) (.str ((⟨#[97,108,116,115]⟩:ByteArray)))with|some m11=>(bif m11.toB then c9 else ae [ak (ln (gR (gC o5 0) 20)==0)])|none=>(ae [ak (ln (gR (gC o5 0) 20)==0)])else bY)else bif ln (gR (gC o5 0) 16)==0 then match aA.dR (au (gR o3 5)) (.str ((⟨#[100,101,99,108,115]⟩:ByteArray)))with|some m12=>(bif m12.toB then match aA.dR (au (gR o3 5)) (.str ((⟨#[97,108,116,115]⟩:ByteArray)))with|some DV=>(bif DV.toB then c9 else ae [ak (ln (gR (gC o5 0) 20)==0)])|none=>(ae [ak (ln (gR (gC o5 0) 20)==0)])else bif bw ((ln (gR (gC o5 0) 18))+(ln (gR (gC o5 0) 19)))==0 then match aA.dR (au (gR o3 5)) (.str ((⟨#[97,108,116,115]⟩:ByteArray)))with|some m14=>(bif m14.toB then c9 else ae [ak (ln (gR (gC o5 0) 20)==0)])|none=>(ae [ak (ln (gR (gC o5 0) 20)==0)])else bY)|none=>(bif bw ((ln (gR (gC o5 0) 18))+(ln (gR (gC o5 0) 19)))==0 then match aA.dR (au (gR o3 5)) (.str ((⟨#[97,108,116,115]⟩:ByteArray)))with|some m15=>(bif m15.toB then c9 else ae [ak (ln (gR (gC o5 0) 20)==0)])|none=>(ae [ak (ln (gR (gC o5 0) 20)==0)])else bY)else bY)|none=>(bif ln (gR (gC o5 0) 16)==0 then match aA.dR (au (gR o3 5)) (.str ((⟨#[100,101,99,108,115]⟩:ByteArray)))with|some m16=>(bif m16.toB then match aA.dR (au (gR o3 5)) (.str ((⟨#[97,108,116,115]⟩:ByteArray)))with|some m17=>(bif m17.toB then c9 else ae [ak (ln (gR (gC o5 0) 20)==0)])|none=>(ae [ak (ln (gR (gC o5 0) 20)==0)])else bif bw ((ln (gR (gC o5 0) 18))+(ln (gR (gC o5 0) 19)))==0 then match aA.dR (au (gR o3 5)) (.str ((⟨#[97,108,116,115]⟩:ByteArray)))with|some m18=>(bif m18.toB then c9 else ae [ak (ln (gR (gC o5 0) 20)==0)])|none=>(ae [ak (ln (gR (gC o5 0) 20)==0)])else bY)|none=>(bif bw ((ln (gR (gC o5 0) 18))+(ln (gR (gC o5 0) 19)))==0 then match aA.dR (au (gR o3 5)) (.str ((⟨#[97,108,116,115]⟩:ByteArray)))with|some m19=>(bif m19.toB then c9 else ae [ak (ln (gR (gC o5 0) 20)==0)])|none=>(ae [ak (ln (gR (gC o5 0) 20)==0)])else bY)else bY)else bif bw ((ln (gR (gC o5 0) 13))+(ln (gR (gC o5 0) 15)))==0 then match aA.dR (au (gR o3 5)) (.str ((⟨#[116,115]⟩:ByteArray)))with|some m20=>(bif m20.toB then match aA.dR (au (gR o3 5)) (.str ((⟨#[100,101,99,108,115]⟩:ByteArray)))with|some m21=>(bif m21.toB then match aA.dR (au (gR o3 5)) (.str ((⟨#[97,108,116,115]⟩:ByteArray)))with|some LC=>(bif LC.toB then c9 else ae [ak (ln (gR (gC o5 0) 20)==0)])|none=>(ae [ak (ln (gR (gC o5 0) 20)==0)])else bif bw ((ln (gR (gC o5 0) 18))+(ln (gR (gC o5 0) 19)))==0 then match aA.dR (au (gR o3 5)) (.str ((⟨#[97,108,116,115]⟩:ByteArray)))with|some LB=>(bif LB.toB then c9 else ae [ak (ln (gR (gC o5 0) 20)==0)])|none=>(ae [ak (ln (gR (gC o5 0) 20)==0)])else bY)|none=>(bif bw ((ln (gR (gC o5 0) 18))+(ln (gR (gC o5 0) 19)))==0 then match aA.dR (au (gR o3 5)) (.str ((⟨#[97,108,116,115]⟩:ByteArray)))with|some m24=>(bif m24.toB then c9 else ae [ak (ln (gR (gC o5 0) 20)==0)])|none=>(ae [ak (ln (gR (gC o5 0) 20)==0)])else bY)else bif ln (gR (gC o5 0) 16)==0 then match aA.dR (au (gR o3 5)) (.str ((⟨#[100,101,99,108,115]⟩:ByteArray)))with|some m25=>(bif m25.toB then match aA.dR (au (gR o3 5)) (.str ((⟨#[97,108,116,115]⟩:ByteArray)))with|some m26=>(bif m26.toB then c9 else ae [ak (ln (gR (gC o5 0) 20)==0)])|none=>(ae [ak (ln (gR (gC o5 0) 20)==0)])else bif bw ((ln (gR (gC o5 0) 18))+(ln (gR (gC o5 0) 19)))==0 then match aA.dR (au (gR o3 5)) (.str ((⟨#[97,108,116,115]⟩:ByteArray)))with|some m27=>(bif m27.toB then c9 else ae [ak (ln (gR (gC o5 0) 20)==0)])|none=>(ae [ak (ln (gR (gC o5 0) 20)==0)])else bY)|none=>(bif bw ((ln (gR (gC o5 0) 18))+(ln (gR (gC o5 0) 19)))==0 then match aA.dR (au (gR o3 5)) (.str ((⟨#[97,108,116,115]⟩:ByteArray)))with|some m28=>(bif m28.toB then c9 else ae [ak (ln (gR (gC o5 0) 20)==0)])|none=>(ae [ak (ln (gR (gC o5 0) 20)==0)])else bY)else bY)|none=>(bif ln (gR (gC o5 0) 16)==0 then match aA.dR (au (gR o3 5)) (.str ((⟨#[100,101,99,108,115]⟩:ByteArray)))with|some m29=>(bif m29.toB then match aA.dR (au (gR o3 5)) (.str ((⟨#[97,108,116,115]⟩:ByteArray)))with|some m30=>(bif m30.toB then c9 else ae [ak (ln (gR (gC o5 0) 20)==0)])|none=>(ae [ak (ln (gR (gC o5 0) 20)==0)])else bif bw ((ln (gR (gC o5 0) 18))+(ln (gR (gC o5 0) 19)))==0 then match aA.dR (au (gR o3 5)) (.str ((⟨#[97,108,116,115]⟩:ByteArray)))with|some m31=>(bif m31.toB then c9 else ae [ak (ln (gR (gC o5 0) 20)==0)])|none=>(ae [ak (ln (gR (gC o5 0) 20)==0)])else bY)|none=>(bif bw ((ln (gR (gC o5 0) 18))+(ln (gR (gC o5 0) 19)))==0 then match aA.dR (au (gR o3 5)) (.str ((⟨#[97,108,116,115]⟩:ByteArray)))with|some m32=>(bif m32.toB then c9 else ae [ak (ln (gR (gC o5 0) 20)==0)])|none=>(ae [ak (ln (gR (gC o5 0) 20)==0)])else bY)else bY)else bY)|none=>(bif bw ((ln (gR (gC o5 0) 13))+(ln (gR (gC o5 0) 15)))==0 then match aA.dR (au (gR o3 5)) (.str ((⟨#[116,115]⟩:ByteArray)))with|some m33=>(bif m33.toB then match aA.dR (au (gR o3 5)) (.str ((⟨#[100,101,99,108,115]⟩:ByteArray)))with|some m34=>(bif m34.toB then match aA.dR (au (gR o3 5)) (.str ((⟨#[97,108,116,115]⟩:ByteArray)))with|some m35=>(bif m35.toB then c9 else ae [ak (ln (gR (gC o5 0) 20)==0)])|none=>(ae [ak (ln (gR (gC o5 0) 20)==0)])else bif bw ((ln (gR (gC o5 0) 18))+(ln (gR (gC o5 0) 19)))==0 then match aA.dR (au (gR o3 5)) (.str ((⟨#[97,108,116,115]⟩:ByteArray)))with|some m36=>(bif m36.toB then c9 else ae [ak (ln (gR (gC o5 0) 20)==0)])|none=>(ae [ak (ln (gR (gC o5 0) 20)==0)])else bY)|none=>(bif bw ((ln (gR (gC o5 0) 18))+(ln (gR (gC o5 0) 19)))==0 then match aA.dR (au (gR o3 5)) (.str ((⟨#[97,108,116,115]⟩:ByteArray)))with|some m37=>(bif m37.toB then c9 else ae [ak (ln (gR (gC o5 0) 20)==0)])|none=>(ae [ak (ln (gR (gC o5 0) 20)==0)])else bY)else bif ln (gR (gC o5 0) 16)==0 then match aA.dR (au (gR o3 5)) (.str ((⟨#[100,101,99,108,115]⟩:ByteArray)))with|some m38=>(bif m38.toB then match aA.dR (au (gR o3 5)) (.str ((⟨#[97,108,116,115]⟩:ByteArray)))with|some m39=>(bif m39.toB then c9 else ae [ak (ln (gR (gC o5 0) 20)==0)])|none=>(ae [ak (ln (gR (gC o5 0) 20)==0)])else bif bw ((ln (gR (gC o5 0) 18))+(ln (gR (gC o5 0) 19)))==0 then match aA.dR (au (gR o3 5)) (.str ((⟨#[97,108,116,115]⟩:ByteArray)))with|some m40=>(bif m40.toB then c9 else ae [ak (ln (gR (gC o5 0) 20)==0)])|none=>(ae [ak (ln (gR (gC o5 0) 20)==0)])else bY)|none=>(bif bw ((ln (gR (gC o5 0) 18))+(ln (gR (gC o5 0) 19)))==0 then match aA.dR (au (gR o3 5)) (.str ((⟨#[97,108,116,115]⟩:ByteArray)))with|some m41=>(bif m41.toB then c9 else ae [ak (ln (gR (gC o5 0) 20)==0)])|none=>(ae [ak (ln (gR (gC o5 0) 20)==0)])else bY)else bY)|none=>(bif ln (gR (gC o5 0) 16)==0 then match aA.dR (au (gR o3 5)) (.str ((⟨#[100,101,99,108,115]⟩:ByteArray)))with|some m42=>(bif m42.toB then match aA.dR (au (gR o3 5)) (.str ((⟨#[97,108,116,115]⟩:ByteArray)))with|some m43=>(bif m43.toB then c9 else ae [ak (ln (gR (gC o5 0) 20)==0)])|none=>(ae [ak (ln (gR (gC o5 0) 20)==0)])else bif bw ((ln (gR (gC o5 0) 18))+(ln (gR (gC o5 0) 19)))==0 then match aA.dR (au (gR o3 5)) (.str ((⟨#[97,108,116,115]⟩:ByteArray)))with|some m44=>(bif m44.toB then c9 else ae [ak (ln (gR (gC o5 0) 20)==0)])|none=>(ae [ak (ln (gR (gC o5 0) 20)==0)])else bY)|none=>(bif bw ((ln (gR (gC o5 0) 18))+(ln (gR (gC o5 0) 19)))==0 then match aA.dR (au (gR o3 5)) (.str ((⟨#[97,108,116,115]⟩:ByteArray)))with|some m45=>(bif m45.toB then c9 else ae [ak (ln (gR (gC o5 0) 20)==0)])|none=>(ae [ak (ln (gR (gC o5 0) 20)==0)])else bY)else bY)else bY)else ae [ak (gB o5 0)]else ae [ak (gB o3 0)]:aJ):=by kernel_rfl
def awj:V6 G N [bE i0]=(bif i0==16 then c9 else bif i0==17 then c9 else bif i0==18 then c9 else bif i0==19 then c9 else bif i0==15 then c9 else bif i0==11 then c9 else bif i0==12 then c9 else bif i0==22 then c9 else ae [ak (i0==21)]:aJ):=by kernel_rfl
def azu:bZ CX EE G N Oa [J l0]=(bO (V6 G N [bE (gI l0 0)]) λ_ o1=>bif gB o1 0 then c9 else bif gI l0 0==9 then ae [ak (aU 0 (ln (gR l0 16)))]else bY:aJ):=by kernel_rfl
def ar8:Uu G N [J l0,ah r1,.ab 0 r2,J l3,J l4]=(bif aU 0 (ln (gR l3 5))then bO (G Oa [av l4]) λ_ o1=>bif gB o1 0 then aN [aq,J (sT (aF l0) aM),ah r1,.ab 0 (az (au r2)),J (sT (ba l3) bF),av l4]else ae [J (sT (aF l0) aM),ah r1,.ab 0 (az (au r2)),J (sT (ba l3) bF),av l4]else ae [J (sT (aF l0) aM),ah r1,.ab 0 (az (au r2)),J (sT (ba l3) bF),av l4]:aJ):=by kernel_rfl
def are:Ud G N [bE i0,J l1,ah r2,.ab 0 r3]=(bif i0==18 then ae [cw,J (sT (aF l1) aM),ah r2,.ab 0 (az (au r3))]else bif i0==19 then ae [cw,J (sT (aF l1) aM),ah r2,.ab 0 (az (au r3))]else ae [ak (i0==21),J (sT (aF l1) aM),ah r2,.ab 0 (az (au r3))]:aJ):=by kernel_rfl
def arD:Um G N [J l0,ah r1,.ab 0 r2,J l3,J l4]=(bO (Ud G N [bE (gI l4 0),J (sT (aF l0) aM),ah r1,.ab 0 (az (au r2))]) λ_ o3=>bif gB o3 0 then bif !(gB l3 7)then aN [ak (!(gB l3 8)),J (sT (aF (gC o3 1)) aM),ah (gR o3 2),.ab 0 (az (au (gR o3 3))),J (sT (ba l3) bF),av l4]else aN [aq,J (sT (aF (gC o3 1)) aM),ah (gR o3 2),.ab 0 (az (au (gR o3 3))),J (sT (ba l3) bF),av l4]else bif gI l4 0==11 then aN [cw,J (sT (aF (gC o3 1)) aM),ah (gR o3 2),.ab 0 (az (au (gR o3 3))),J (sT (ba l3) bF),av l4]else bif gI l4 0==12 then aN [cw,J (sT (aF (gC o3 1)) aM),ah (gR o3 2),.ab 0 (az (au (gR o3 3))),J (sT (ba l3) bF),av l4]else ae [J (sT (aF (gC o3 1)) aM),ah (gR o3 2),.ab 0 (az (au (gR o3 3))),J (sT (ba l3) bF),av l4]:aJ):=by kernel_rfl
def atz:bZ CX EE G N UT [J l0,J l1,J l2,ah r3,.ab 0 r4]=(bO (Uu G N [J (sT (aF l2) aM),ah r3,.ab 0 (az (au r4)),J (sT (ba l0) bF),av l1]) λq2 o2=>bif bQ q2 then bO (Um G N [J (sT (aF (gC o2 0)) aM),ah (gR o2 1),.ab 0 (az (au (gR o2 2))),J (sT (ba (gC o2 3)) bF),av (gC o2 4)]) λq4 o4=>bif bQ q4 then bif !(gB (gC o4 3) 8)then ae [cw,J (sT (aF (gC o4 0)) aM),ah (gR o4 1),.ab 0 (az (au (gR o4 2)))]else bO (G Oa [av (gC o4 4)]) λ_ o5=>ae [ak (!(gB o5 0)),J (sT (aF (gC o4 0)) aM),ah (gR o4 1),.ab 0 (az (au (gR o4 2)))]else ae [ak (gB o4 0),J (sT (aF (gC o4 1)) aM),ah (gR o4 2),.ab 0 (az (au (gR o4 3)))]else ae [ak (gB o2 0),J (sT (aF (gC o2 1)) aM),ah (gR o2 2),.ab 0 (az (au (gR o2 3)))]:aJ):=by kernel_rfl
def awo:bZ CX EE G N BO [J l0,iI i1,J l2,ah r3,.ab 0 r4]=(bp i1 r3<|aR (dH (i1.toNat) (r3.length))<|bif cg 0 (gI (aD r3 i1) 0)then bO (G sD [aa (gR l0 5),iI (gI (aD r3 i1) 0)]) λ_ o1=>ae [ak (gB o1 0),J (sT (aF l2) aM),ah r3,.ab 0 (az (au r4))]else bif aU (gI (aD r3 i1) 1) 0 then ae [cw,J (sT (aF l2) aM),ah r3,.ab 0 (az (au r4))]else bif gI (aD r3 i1) 1==gI l0 1 then bO (G sD [aa (gR l0 4),iI (gI (aD r3 i1) 2)]) λ_ o2=>ae [ak (gB o2 0),J (sT (aF l2) aM),ah r3,.ab 0 (az (au r4))]else ae [aq,J (sT (aF l2) aM),ah r3,.ab 0 (az (au r4))]:aJ):=by kernel_rfl
def atx:bZ CX EE G N UR [J l0,J l1,J l2,ah r3,.ab 0 r4]=(bO (G EM [J (sT (ba l1) bF),bS l0,J (sT (aF l2) aM),ah r3,.ab 0 (az (au r4))]) λ_ o1=>ae [ak (!(gB o1 0)),J (sT (ba l1) gz),J (sT (aF (gC o1 1)) gw),ah (gR o1 2),.ab 0 (az (au (gR o1 3)))]:aJ):=by kernel_rfl
def ab7:Eo G N (n+1) [aT r0,iI i1,iI i2,J l3,J l4,ah r5,.ab 0 r6]=(bif aU i2 i1 then bp i2 r0<|bO (G UR [bS (aD r0 i2),J (sT (ba l3) gz),J (sT (aF l4) gw),ah r5,.ab 0 (az (au r6))]) λ_ o1=>bif gB o1 0 then ae [iI i2,J (sT (ba (gC o1 1)) gz),J (sT (aF (gC o1 2)) gw),ah (gR o1 3),.ab 0 (az (au (gR o1 4)))]else Eo G N n [aT r0,iI i1,cC i2,J (sT (ba (gC o1 1)) gz),J (sT (aF (gC o1 2)) gw),ah (gR o1 3),.ab 0 (az (au (gR o1 4)))]else aN [J (sT (ba l3) gz),J (sT (aF l4) gw),ah r5,.ab 0 (az (au r6))]:aJ):=by kernel_rfl
def ap2:bZ CX EE G N TM [aT r0,J l1,J l2,ah r3,.ab 0 r4]=(bO (Eo G N N [aT r0,iI (ln r0),iI 0,J (sT (ba l1) gz),J (sT (aF l2) gw),ah r3,.ab 0 (az (au r4))]) λq2 o2=>bif bQ q2 then ae [iI (gI o2 0),J (sT (ba (gC o2 1)) gz),J (sT (aF (gC o2 2)) gw),ah (gR o2 3),.ab 0 (az (au (gR o2 4)))]else ae [iI (-1),J (sT (ba (gC o2 0)) gz),J (sT (aF (gC o2 1)) gw),ah (gR o2 2),.ab 0 (az (au (gR o2 3)))]:aJ):=by kernel_rfl
def apL:bZ CX EE G N TH [aT r0,J l1,J l2,ah r3,.ab 0 r4]=(bO (G TM [aT r0,J (sT (ba l1) gz),J (sT (aF l2) gw),ah r3,.ab 0 (az (au r4))]) λ_ o1=>ae [ak (cg 0 (gI o1 0)),J (sT (ba (gC o1 1)) gz),J (sT (aF (gC o1 2)) gw),ah (gR o1 3),.ab 0 (az (au (gR o1 4)))]:aJ):=by kernel_rfl
def atr:U4 G N [J l0,ah r1,.ab 0 r2,J l3,J l4]=(bif gI l4 0==2 then bO (G BO [J (sT (ba l3) bF),iI (gI l4 3),J (sT (aF l0) aM),ah r1,.ab 0 (az (au r2))]) λ_ o1=>bif !(gB o1 0)then aN [aq,J (sT (aF (gC o1 1)) aM),ah (gR o1 2),.ab 0 (az (au (gR o1 3))),J (sT (ba l3) bF),bS l4]else ae [J (sT (aF (gC o1 1)) aM),ah (gR o1 2),.ab 0 (az (au (gR o1 3))),J (sT (ba l3) bF),bS l4]else bif gI l4 0==3 then bO (G BO [J (sT (ba l3) bF),iI (gI l4 3),J (sT (aF l0) aM),ah r1,.ab 0 (az (au r2))]) λ_ o2=>bif !(gB o2 0)then aN [aq,J (sT (aF (gC o2 1)) aM),ah (gR o2 2),.ab 0 (az (au (gR o2 3))),J (sT (ba l3) bF),bS l4]else ae [J (sT (aF (gC o2 1)) aM),ah (gR o2 2),.ab 0 (az (au (gR o2 3))),J (sT (ba l3) bF),bS l4]else bif gI l4 0==12 then bp (gI l4 3) r1<|aR (dH ((gI l4 3).toNat) (r1.length))<|bif !(((gI (aD r1 (gI l4 3)) 0)==(-1))&&(((gI (aD r1 (gI l4 3)) 1)==(-1))&&(((gI (aD r1 (gI l4 3)) 2)==(-1))&&true)))then aN [aq,J (sT (aF l0) aM),ah r1,.ab 0 (az (au r2)),J (sT (ba l3) bF),bS l4]else ae [J (sT (aF l0) aM),ah r1,.ab 0 (az (au r2)),J (sT (ba l3) bF),bS l4]else ae [J (sT (aF l0) aM),ah r1,.ab 0 (az (au r2)),J (sT (ba l3) bF),bS l4]:aJ):=by kernel_rfl
def adM:bZ CX EE G N EM [J l0,J l1,J l2,ah r3,.ab 0 r4]=(bO (U4 G N [J (sT (aF l2) aM),ah r3,.ab 0 (az (au r4)),J (sT (ba l0) bF),bS l1]) λq3 o3=>bif bQ q3 then bO (G TH [aT (gR (gC o3 4) 8),J (sT (ba (gC o3 3)) gz),J (sT (aF (gC o3 0)) gw),ah (gR o3 1),.ab 0 (az (au (gR o3 2)))]) λ_ o4=>ae [ak (!(gB o4 0)),J (sT (aF (gC o4 2)) aM),ah (gR o4 3),.ab 0 (az (au (gR o4 4)))]else ae [ak (gB o3 0),J (sT (aF (gC o3 1)) aM),ah (gR o3 2),.ab 0 (az (au (gR o3 3)))]:aJ):=by kernel_rfl
def Na:bZ CX EE G N xV [J l0,J l1,J l2,ah r3,.ab 0 r4]=(bO (G Nz [J [bJ (gR l2 0),iI (gI l2 1)],bS l1]) λ_ o1=>bif gB o1 1 then bO (G EM [J (sT (ba l0) bF),bS l1,J (sT (aF l2) aM),ah r3,.ab 0 (az (au r4))]) λ_ o2=>ae [cO (gC o1 0),ak (gB o2 0),J (sT (aF (gC o2 1)) aM),ah (gR o2 2),.ab 0 (az (au (gR o2 3)))]else ae [cO (gC o1 0),aq,J (sT (aF l2) aM),ah r3,.ab 0 (az (au r4))]:aJ):=by kernel_rfl
def asR:bZ CX EE G N UC [iI i0,J l1,J l2,ah r3,.ab 0 r4]=(bO (G sD [aa (gR l1 6),iI i0]) λ_ o1=>ae [ak (gB o1 0),J (sT (ba l1) gz),J (sT (aF l2) gw),ah r3,.ab 0 (az (au r4))]:aJ):=by kernel_rfl
def ab9:HZ G N (n+1) [aa r0,iI i1,iI i2,J l3,J l4,ah r5,.ab 0 r6]=(bif aU i2 i1 then bp i2 r0<|bO (G UC [iI (gI (aD r0 i2) 0),J (sT (ba l3) gz),J (sT (aF l4) gw),ah r5,.ab 0 (az (au r6))]) λ_ o1=>bif gB o1 0 then ae [iI i2,J (sT (ba (gC o1 1)) gz),J (sT (aF (gC o1 2)) gw),ah (gR o1 3),.ab 0 (az (au (gR o1 4)))]else HZ G N n [aa r0,iI i1,cC i2,J (sT (ba (gC o1 1)) gz),J (sT (aF (gC o1 2)) gw),ah (gR o1 3),.ab 0 (az (au (gR o1 4)))]else aN [J (sT (ba l3) gz),J (sT (aF l4) gw),ah r5,.ab 0 (az (au r6))]:aJ):=by kernel_rfl
def acg:bZ CX EE G N TO [aa r0,J l1,J l2,ah r3,.ab 0 r4]=(bO (HZ G N N [aa r0,iI (ln r0),iI 0,J (sT (ba l1) gz),J (sT (aF l2) gw),ah r3,.ab 0 (az (au r4))]) λq2 o2=>bif bQ q2 then ae [iI (gI o2 0),J (sT (ba (gC o2 1)) gz),J (sT (aF (gC o2 2)) gw),ah (gR o2 3),.ab 0 (az (au (gR o2 4)))]else ae [iI (-1),J (sT (ba (gC o2 0)) gz),J (sT (aF (gC o2 1)) gw),ah (gR o2 2),.ab 0 (az (au (gR o2 3)))]:aJ):=by kernel_rfl
end
noncomputable section
variable {G:Nat->bl->Option UO} {N n:Nat} {i0 i1 i2:Int} {l0 l1 l2 l3 l4 l5 l6:bl} {r0 r1 r2 r3 r4 r5 r6 r7:aW}
def apO:bZ CX EE G N Ms [aa r0,J l1,J l2,ah r3,.ab 0 r4]=(bO (G TO [aa r0,J (sT (ba l1) gz),J (sT (aF l2) gw),ah r3,.ab 0 (az (au r4))]) λ_ o1=>ae [ak (cg 0 (gI o1 0)),J (sT (ba (gC o1 1)) gz),J (sT (aF (gC o1 2)) gw),ah (gR o1 3),.ab 0 (az (au (gR o1 4)))]:aJ):=by kernel_rfl
def asa:Uw G N [iI i0,J l1,ah r2,.ab 0 r3,J l4,J l5,aT r6]=(bif gI l4 0==1 then ae [iI 0,J (sT (aF l1) aM),ah r2,.ab 0 (az (au r3)),eE l4,J [bE (gI l5 0),iI (gI l4 1),iI (gI l4 2),iI (gI l5 3),.aC 5],aT r6]else bif gI l4 0==2 then ae [iI i0,J (sT (aF l1) aM),ah r2,.ab 0 (az (au r3)),eE l4,J (sT (oI l4) [(0,bE (gI l5 0)),(4,.aC 5)]),aT r6]else bif gI l4 0==3 then ae [iI i0,J (sT (aF l1) aM),ah r2,.ab 0 (az (au r3)),eE l4,J (sT (oI l5) aaF),aT r6]else aN [aq,J (sT (aF l1) aM),ah r2,.ab 0 (az (au r3)),eE l4,J (sT (oI l5) KE),aa cy,aT r6]:aJ):=by kernel_rfl
def ar9:Uv G N [iI i0,J l1,ah r2,.ab 0 r3,J l4,J l5,aT r6]=(bif gI l5 1 != gI l4 1 then aN [aq,J (sT (aF l1) aM),ah r2,.ab 0 (az (au r3)),eE l4,J (sT (oI l5) KE),aa cy,aT r6]else bif gI l5 2 != gI l4 2 then aN [aq,J (sT (aF l1) aM),ah r2,.ab 0 (az (au r3)),eE l4,J (sT (oI l5) KE),aa cy,aT r6]else bif gI l5 3 != gI l4 3 then aN [aq,J (sT (aF l1) aM),ah r2,.ab 0 (az (au r3)),eE l4,J (sT (oI l5) KE),aa cy,aT r6]else bif ln (gR l4 4) != i0 then aN [aq,J (sT (aF l1) aM),ah r2,.ab 0 (az (au r3)),eE l4,J (sT (oI l5) KE),aa cy,aT r6]else ae [J (sT (aF l1) aM),ah r2,.ab 0 (az (au r3)),eE l4,J (sT (oI l5) aaF),aT r6]:aJ):=by kernel_rfl
def acQ:BE G N [iI i0,J l1,ah r2,.ab 0 r3,J l4,J l5,J l6,aa r7]=(bif i0==1 then aR (aU 0 (ln (gR l5 4)))<|bO (G xV [J (sT (ba l4) bF),bS (gA (gR l5 4) 0),J (sT (aF l1) aM),ah r2,.ab 0 (az (au r3))]) λ_ o3=>bif !(gB o3 1)then aN [aq,J (sT (aF (gC o3 2)) aM),ah (gR o3 3),.ab 0 (az (au (gR o3 4))),J (sT (ba l4) bF),eE l5,cO (gC o3 0),aa cy]else ae [J (sT (aF (gC o3 2)) aM),ah (gR o3 3),.ab 0 (az (au (gR o3 4))),J (sT (ba l4) bF),eE l5,cO (gC o3 0)]else ae [J (sT (aF l1) aM),ah r2,.ab 0 (az (au r3)),J (sT (ba l4) bF),eE l5,J (sT (jF l6) [(2,aa r7)])]:aJ):=by kernel_rfl
def aqS:T4 G N [J l0,ah r1,.ab 0 r2,J l3,J l4,J l5]=(bif gB l5 0 then aN [aq,J (sT (aF l0) aM),ah r1,.ab 0 (az (au r2)),J (sT (ba l3) bF),eE l4,cO l5,aa cy]else bO (G Nq [J [bJ (gR l0 0),iI (gI l0 1)],iI (gI l4 1),iI (gI l4 2),iI (gI l4 3)]) λ_ o7=>bif !(gB o7 0)then aN [aq,J (sT (aF l0) aM),ah r1,.ab 0 (az (au r2)),J (sT (ba l3) bF),eE l4,cO l5,aa cy]else bO (G BO [J (sT (ba l3) bF),iI (gI l4 1),J (sT (aF l0) aM),ah r1,.ab 0 (az (au r2))]) λ_ o8=>bif !(gB o8 0)then aN [aq,J (sT (aF (gC o8 1)) aM),ah (gR o8 2),.ab 0 (az (au (gR o8 3))),J (sT (ba l3) bF),eE l4,cO l5,aa cy]else ae [J (sT (aF (gC o8 1)) aM),ah (gR o8 2),.ab 0 (az (au (gR o8 3))),J (sT (ba l3) bF),eE l4,cO l5]:aJ):=by kernel_rfl
def arf:MI G N [J l0,ah r1,.ab 0 r2,J l3,J l4,J l5]=(bif gI l4 0==1 then bO (G BI [J [bJ (gR l0 0),iI (gI l0 1)],iI (gI l4 1),iI (gI l4 2)]) λ_ o5=>bif !(gB o5 0)then aN [aq,J (sT (aF l0) aM),ah r1,.ab 0 (az (au r2)),J (sT (ba l3) bF),eE l4,cO l5,aa cy]else bO (G BO [J (sT (ba l3) bF),iI (gI l4 1),J (sT (aF l0) aM),ah r1,.ab 0 (az (au r2))]) λ_ o6=>bif !(gB o6 0)then aN [aq,J (sT (aF (gC o6 1)) aM),ah (gR o6 2),.ab 0 (az (au (gR o6 3))),J (sT (ba l3) bF),eE l4,cO l5,aa cy]else ae [aa (([[iI (gI l4 1)]]:aW)),J (sT (aF (gC o6 1)) aM),ah (gR o6 2),.ab 0 (az (au (gR o6 3))),J (sT (ba l3) bF),eE l4,cO l5]else bif gI l4 0==2 then bO (T4 G N [J (sT (aF l0) aM),ah r1,.ab 0 (az (au r2)),J (sT (ba l3) bF),eE l4,cO l5]) λq9 o9=>bif bQ q9 then ae [aa (([[iI (gI (gC o9 4) 1)]]:aW)),J (sT (aF (gC o9 0)) aM),ah (gR o9 1),.ab 0 (az (au (gR o9 2))),J (sT (ba (gC o9 3)) bF),eE (gC o9 4),cO (gC o9 5)]else aN [ak (gB o9 0),J (sT (aF (gC o9 1)) aM),ah (gR o9 2),.ab 0 (az (au (gR o9 3))),J (sT (ba (gC o9 4)) bF),eE (gC o9 5),cO (gC o9 6),aa (gR o9 7)]else bif !(gB l5 0)then bif !(gB l5 1)then aN [aq,J (sT (aF l0) aM),ah r1,.ab 0 (az (au r2)),J (sT (ba l3) bF),eE l4,cO l5,aa cy]else ae [aa (gR l5 2),J (sT (aF l0) aM),ah r1,.ab 0 (az (au r2)),J (sT (ba l3) bF),eE l4,cO l5]else ae [aa (gR l5 2),J (sT (aF l0) aM),ah r1,.ab 0 (az (au r2)),J (sT (ba l3) bF),eE l4,cO l5]:aJ):=by kernel_rfl
def auk:bZ CX EE G N BH [J l0,J l1,J l2,ah r3,.ab 0 r4]=(bO (Uw G N [iI 1,J (sT (aF l2) aM),ah r3,.ab 0 (az (au r4)),eE l1,J [bE (gI l1 0),iI 0,iI 0,iI 0,.aC 5],aT cy]) λq1 o1=>bif bQ q1 then bO (Uv G N [iI (gI o1 0),J (sT (aF (gC o1 1)) aM),ah (gR o1 2),.ab 0 (az (au (gR o1 3))),eE (gC o1 4),J (sT (oI (gC o1 5)) aaF),aT (gR o1 6)]) λq2 o2=>bif bQ q2 then bO (BE G N [iI (gI o1 0),J (sT (aF (gC o2 0)) aM),ah (gR o2 1),.ab 0 (az (au (gR o2 2))),J (sT (ba l0) bF),eE (gC o2 3),J [aq,aq,.aC 6,iI 0,iI 0],aa cy]) λq4 o4=>bif bQ q4 then bO (MI G N [J (sT (aF (gC o4 0)) aM),ah (gR o4 1),.ab 0 (az (au (gR o4 2))),J (sT (ba (gC o4 3)) bF),eE (gC o4 4),cO (gC o4 5)]) λmO cV=>bif bQ mO then bO (G Ms [aa (gR cV 0),J (sT (ba (gC cV 4)) gz),J (sT (aF (gC cV 1)) gw),ah (gR cV 2),.ab 0 (az (au (gR cV 3)))]) λ_ cX=>ae [aa (gR cV 0),ak (!(gB cX 0)),J (sT (aF (gC cX 2)) aM),ah (gR cX 3),.ab 0 (az (au (gR cX 4)))]else ae [aa (gR cV 7),ak (gB cV 0),J (sT (aF (gC cV 1)) aM),ah (gR cV 2),.ab 0 (az (au (gR cV 3)))]else ae [aa (gR o4 7),ak (gB o4 0),J (sT (aF (gC o4 1)) aM),ah (gR o4 2),.ab 0 (az (au (gR o4 3)))]else ae [aa (gR o2 6),ak (gB o2 0),J (sT (aF (gC o2 1)) aM),ah (gR o2 2),.ab 0 (az (au (gR o2 3)))]else ae [aa (gR o1 6),ak (gB o1 0),J (sT (aF (gC o1 1)) aM),ah (gR o1 2),.ab 0 (az (au (gR o1 3)))]:aJ):=by kernel_rfl
def axE:bZ CX EE G N Wa [iI i0,J l1]=(bO (G sD [aa (gR l1 0),iI i0]) λ_ o1=>ae [ak (!(gB o1 0)),J [aa (gR l1 0)]]:aJ):=by kernel_rfl
def acp:MF G N (n+1) [aa r0,iI i1,iI i2,J l3]=(bif aU i2 i1 then bp i2 r0<|bO (G Wa [iI (gI (aD r0 i2) 0),J [aa (gR l3 0)]]) λ_ o1=>bif gB o1 0 then ae [iI i2,J [aa (gR (gC o1 1) 0)]]else MF G N n [aa r0,iI i1,cC i2,J [aa (gR (gC o1 1) 0)]]else aN [J [aa (gR l3 0)]]:aJ):=by kernel_rfl
def acD:bZ CX EE G N acG [aa r0,J l1]=(bO (MF G N N [aa r0,iI (ln r0),iI 0,J [aa (gR l1 0)]]) λq2 o2=>bif bQ q2 then ae [iI (gI o2 0),J [aa (gR (gC o2 1) 0)]]else ae [iI (-1),J [aa (gR (gC o2 0) 0)]]:aJ):=by kernel_rfl
def acr:bZ CX EE G N acv [aa r0,J l1]=(bO (G acG [aa r0,J [aa (gR l1 0)]]) λ_ o1=>ae [ak (cg 0 (gI o1 0)),J [aa (gR (gC o1 1) 0)]]:aJ):=by kernel_rfl
def afg:bZ CX EE G N IT [aa r0,aa r1]=(bO (G acv [aa r0,J [aa r1]]) λ_ o1=>ae [ak (!(gB o1 0))]:aJ):=by kernel_rfl
def awq:bZ CX EE G N VP [J l0,J l1]=(bif gB l1 3 then bif gB l0 1 then c9 else bif gB l0 0 then bO (G IT [aa (gR l0 2),aa (gR l1 4)]) λ_ o1=>ae [ak (gB o1 0)]else bY else bif !(gB l0 0)then bif cg (gI l1 1) (gI l0 3)then ae [ak (cg (gI l0 4) (gI l1 2))]else bY else bY:aJ):=by kernel_rfl
def aum:bZ CX EE G N Vb [iI i0,J l1,J l2,J l3,ah r4,.ab 0 r5]=(bp i0 (gR l3 0)<|bO (G VP [cO l1,gW (aD (gR l3 0) i0)]) λ_ o1=>ae [ak (!(gB o1 0)),cO l1,J (sT (ba l2) vJ),J (sT (aF l3) vI),ah r4,.ab 0 (az (au r5))]:aJ):=by kernel_rfl
def acd:H3 G N (n+1) [aa r0,iI i1,iI i2,J l3,J l4,J l5,ah r6,.ab 0 r7]=(bif aU i2 i1 then bp i2 r0<|bO (G Vb [iI (gI (aD r0 i2) 0),cO l3,J (sT (ba l4) vJ),J (sT (aF l5) vI),ah r6,.ab 0 (az (au r7))]) λ_ o1=>bif gB o1 0 then ae [iI i2,cO (gC o1 1),J (sT (ba (gC o1 2)) vJ),J (sT (aF (gC o1 3)) vI),ah (gR o1 4),.ab 0 (az (au (gR o1 5)))]else H3 G N n [aa r0,iI i1,cC i2,cO (gC o1 1),J (sT (ba (gC o1 2)) vJ),J (sT (aF (gC o1 3)) vI),ah (gR o1 4),.ab 0 (az (au (gR o1 5)))]else aN [cO l3,J (sT (ba l4) vJ),J (sT (aF l5) vI),ah r6,.ab 0 (az (au r7))]:aJ):=by kernel_rfl
def acq:bZ CX EE G N TT [aa r0,J l1,J l2,J l3,ah r4,.ab 0 r5]=(bO (H3 G N N [aa r0,iI (ln r0),iI 0,cO l1,J (sT (ba l2) vJ),J (sT (aF l3) vI),ah r4,.ab 0 (az (au r5))]) λq2 o2=>bif bQ q2 then ae [iI (gI o2 0),cO (gC o2 1),J (sT (ba (gC o2 2)) vJ),J (sT (aF (gC o2 3)) vI),ah (gR o2 4),.ab 0 (az (au (gR o2 5)))]else ae [iI (-1),cO (gC o2 0),J (sT (ba (gC o2 1)) vJ),J (sT (aF (gC o2 2)) vI),ah (gR o2 3),.ab 0 (az (au (gR o2 4)))]:aJ):=by kernel_rfl
def ap3:bZ CX EE G N TN [aa r0,J l1,J l2,J l3,ah r4,.ab 0 r5]=(bO (G TT [aa r0,cO l1,J (sT (ba l2) vJ),J (sT (aF l3) vI),ah r4,.ab 0 (az (au r5))]) λ_ o1=>ae [ak (cg 0 (gI o1 0)),cO (gC o1 1),J (sT (ba (gC o1 2)) vJ),J (sT (aF (gC o1 3)) vI),ah (gR o1 4),.ab 0 (az (au (gR o1 5)))]:aJ):=by kernel_rfl
def awp:bZ CX EE G N zN [J l0,J l1,aa r2,J l3,ah r4,.ab 0 r5]=(bO (G xV [J (sT (ba l0) bF),bS l1,J (sT (aF l3) aM),ah r4,.ab 0 (az (au r5))]) λ_ o1=>bif gB o1 1 then bO (G TN [aa r2,cO (gC o1 0),J (sT (ba l0) vJ),J (sT (aF (gC o1 2)) vI),ah (gR o1 3),.ab 0 (az (au (gR o1 4)))]) λ_ o2=>ae [ak (!(gB o2 0)),J (sT (aF (gC o2 3)) aM),ah (gR o2 4),.ab 0 (az (au (gR o2 5)))]else ae [aq,J (sT (aF (gC o1 2)) aM),ah (gR o1 3),.ab 0 (az (au (gR o1 4)))]:aJ):=by kernel_rfl
def acR:bZ CX EE G N H8 [J l0,J l1,J l2,ah r3,.ab 0 r4]=(bO (G xV [J (sT (ba l0) bF),bS l1,J (sT (aF l2) aM),ah r3,.ab 0 (az (au r4))]) λ_ o1=>bif gB o1 1 then bO (G rJ [cO (gC o1 0)]) λ_ o2=>ae [ak (gB o2 0),J (sT (aF (gC o1 2)) aM),ah (gR o1 3),.ab 0 (az (au (gR o1 4)))]else ae [aq,J (sT (aF (gC o1 2)) aM),ah (gR o1 3),.ab 0 (az (au (gR o1 4)))]:aJ):=by kernel_rfl
def adp:bZ CX EE G N wF [J l0,J l1,J l2,ah r3,.ab 0 r4]=(bO (G xV [J (sT (ba l0) bF),bS l1,J (sT (aF l2) aM),ah r3,.ab 0 (az (au r4))]) λ_ o1=>bif gB o1 1 then ae [ak (!(gB (gC o1 0) 0)),J (sT (aF (gC o1 2)) aM),ah (gR o1 3),.ab 0 (az (au (gR o1 4)))]else ae [aq,J (sT (aF (gC o1 2)) aM),ah (gR o1 3),.ab 0 (az (au (gR o1 4)))]:aJ):=by kernel_rfl
def Up:bZ CX EE G N Ic [J l0,J l1,J l2,ah r3,.ab 0 r4]=(bO (G BH [J (sT (ba l0) bF),eE l1,J (sT (aF l2) aM),ah r3,.ab 0 (az (au r4))]) λ_ o1=>bif gB o1 1 then bif gI l1 0 != 3 then aR (aU 0 (ln (gR o1 0)))<|bp (gI (gA (gR o1 0) 0) 0) (gR (gC o1 2) 0)<|ae [ak (!(gB (aD (gR (gC o1 2) 0) (gI (gA (gR o1 0) 0) 0)) 3)),J (sT (aF (gC o1 2)) aM),ah (gR o1 3),.ab 0 (az (au (gR o1 4)))]else ae [aq,J (sT (aF (gC o1 2)) aM),ah (gR o1 3),.ab 0 (az (au (gR o1 4)))]else ae [aq,J (sT (aF (gC o1 2)) aM),ah (gR o1 3),.ab 0 (az (au (gR o1 4)))]:aJ):=by kernel_rfl
def avm:bZ CX EE G N Ni [J l0,iI i1,iI i2,J l3,ah r4,.ab 0 r5]=(bif cg 0 i1 then bif aU i1 (ln (gR l3 5))then bif cg 0 i2 then bp i1 (gR l3 5)<|ae [ak (aU i2 (ln (gR (aD (gR l3 5) i1) 2))),J (sT (aF l3) aM),ah r4,.ab 0 (az (au r5))]else ae [aq,J (sT (aF l3) aM),ah r4,.ab 0 (az (au r5))]else ae [aq,J (sT (aF l3) aM),ah r4,.ab 0 (az (au r5))]else ae [aq,J (sT (aF l3) aM),ah r4,.ab 0 (az (au r5))]:aJ):=by kernel_rfl
def aun:bZ CX EE G N EH [J l0,iI i1,iI i2,J l3,ah r4,.ab 0 r5]=(bif cg 0 i1 then bif aU i1 (ln (gR l3 4))then bif cg 0 i2 then bp i1 (gR l3 4)<|ae [ak (aU i2 (ln (gR (aD (gR l3 4) i1) 1))),J (sT (aF l3) aM),ah r4,.ab 0 (az (au r5))]else ae [aq,J (sT (aF l3) aM),ah r4,.ab 0 (az (au r5))]else ae [aq,J (sT (aF l3) aM),ah r4,.ab 0 (az (au r5))]else ae [aq,J (sT (aF l3) aM),ah r4,.ab 0 (az (au r5))]:aJ):=by kernel_rfl
def aA0:bZ CX EE G N u6 [J l0]=(bO (G IG [av l0,J se]) λ_ o1=>ae [ak (gB o1 0)]:aJ):=by kernel_rfl
def arB:Ul G N [bE i0,J l1,ah r2,.ab 0 r3]=(bif i0==2 then ae [cw,J (sT (aF l1) aM),ah r2,.ab 0 (az (au r3))]else ae [ak (i0==3),J (sT (aF l1) aM),ah r2,.ab 0 (az (au r3))]:aJ):=by kernel_rfl
def ar7:Ut G N [iI i0,J l1,ah r2,.ab 0 r3,J l4]=(bO (Ul G N [bE (gI l4 11),J (sT (aF l1) aM),ah r2,.ab 0 (az (au r3))]) λ_ o1=>bif gB o1 0 then ae [iI 1,J (sT (aF (gC o1 1)) aM),ah (gR o1 2),.ab 0 (az (au (gR o1 3))),av l4]else bif gI l4 11==0 then aR (cg 0 (bw (ln (gR l4 17)- 2))&&cg (bw (ln (gR l4 17)- 2)) (ln (gR l4 17))&&cg (ln (gR l4 17)) (ln (gR l4 17))&&cg (ln (gR l4 17)) (ln (gR l4 17)))<|aR (aU 0 (ln ((gR l4 17).drop ((bw (ln (gR l4 17)- 2)).toNat))))<|bO (G u6 [av (gA ((gR l4 17).drop ((bw (ln (gR l4 17)- 2)).toNat)) 0)]) λ_ o2=>bif !(gB o2 0)then aN [aq,J (sT (aF (gC o1 1)) aM),ah (gR o1 2),.ab 0 (az (au (gR o1 3))),av l4]else aR (aU 1 (ln ((gR l4 17).drop ((bw (ln (gR l4 17)- 2)).toNat))))<|bO (G u6 [av (gA ((gR l4 17).drop ((bw (ln (gR l4 17)- 2)).toNat)) 1)]) λ_ o3=>bif !(gB o3 0)then aN [aq,J (sT (aF (gC o1 1)) aM),ah (gR o1 2),.ab 0 (az (au (gR o1 3))),av l4]else ae [iI i0,J (sT (aF (gC o1 1)) aM),ah (gR o1 2),.ab 0 (az (au (gR o1 3))),av l4]else bif gI l4 11==1 then ae [iI i0,J (sT (aF (gC o1 1)) aM),ah (gR o1 2),.ab 0 (az (au (gR o1 3))),av l4]else aN [aq,J (sT (aF (gC o1 1)) aM),ah (gR o1 2),.ab 0 (az (au (gR o1 3))),av l4]:aJ):=by kernel_rfl
def auj:bZ CX EE G N Il [J l0,J l1,J l2,ah r3,.ab 0 r4]=(bO (Ut G N [iI 0,J (sT (aF l2) aM),ah r3,.ab 0 (az (au r4)),av l1]) λq4 o4=>bif bQ q4 then bif ln (gR (gC o4 4) 12)==gI o4 0 then bif gI o4 0==0 then ae [cw,J (sT (aF (gC o4 1)) aM),ah (gR o4 2),.ab 0 (az (au (gR o4 3)))]else aR (aU 0 (ln (gR (gC o4 4) 12)))<|bO (G wF [J (sT (ba l0) bF),bS (gA (gR (gC o4 4) 12) 0),J (sT (aF (gC o4 1)) aM),ah (gR o4 2),.ab 0 (az (au (gR o4 3)))]) λ_ o5=>ae [ak (gB o5 0),J (sT (aF (gC o5 1)) aM),ah (gR o5 2),.ab 0 (az (au (gR o5 3)))]else ae [aq,J (sT (aF (gC o4 1)) aM),ah (gR o4 2),.ab 0 (az (au (gR o4 3)))]else ae [ak (gB o4 0),J (sT (aF (gC o4 1)) aM),ah (gR o4 2),.ab 0 (az (au (gR o4 3)))]:aJ):=by kernel_rfl
def aA1:bZ CX EE G N Jg [J l0,J l1]=(bif gB l0 3 then bif gB l0 3 then bif gB l1 3 then bO (G IT [aa (gR l0 4),aa (gR l1 4)]) λ_ o1=>ae [ak (gB o1 0)]else bY else bY else bif gB l1 3 then bif gB l0 3 then bif gB l1 3 then bO (G IT [aa (gR l0 4),aa (gR l1 4)]) λ_ o2=>ae [ak (gB o2 0)]else bY else bY else bif cg (gI l1 1) (gI l0 1)then ae [ak (cg (gI l0 2) (gI l1 2))]else bY:aJ):=by kernel_rfl
end
noncomputable section
variable {G:Nat->bl->Option UO} {N n:Nat} {i0 i1 i2 i3:Int} {l0 l1 l2 l3 l4 l5 l6 l7:bl} {r0 r1 r2 r3 r4 r5 r6 r7 r8:aW}
def atB:bZ CX EE G N UU [iI i0,J l1,J l2,J l3,J l4,ah r5,.ab 0 r6]=(bp (gI l3 0) (gR l2 1)<|bp (gI (aD (gR l2 1) (gI l3 0)) 0) (gR l4 0)<|bp i0 (gR l4 0)<|bO (G Jg [gW (aD (gR l4 0) (gI (aD (gR l2 1) (gI l3 0)) 0)),gW (aD (gR l4 0) i0)]) λ_ o1=>ae [ak (!(gB o1 0)),J (sT (ba l1) vH),J [aa (gR l2 0),aa (gR l2 1)],J [iI (gI l3 0)],J (sT (aF l4) vG),ah r5,.ab 0 (az (au r6))]:aJ):=by kernel_rfl
def acb:H2 G N (n+1) [aa r0,iI i1,iI i2,J l3,J l4,J l5,J l6,ah r7,.ab 0 r8]=(bif aU i2 i1 then bp i2 r0<|bO (G UU [iI (gI (aD r0 i2) 0),J (sT (ba l3) vH),J [aa (gR l4 0),aa (gR l4 1)],J [iI (gI l5 0)],J (sT (aF l6) vG),ah r7,.ab 0 (az (au r8))]) λ_ o1=>bif gB o1 0 then ae [iI i2,J (sT (ba (gC o1 1)) vH),J [aa (gR (gC o1 2) 0),aa (gR (gC o1 2) 1)],J [iI (gI (gC o1 3) 0)],J (sT (aF (gC o1 4)) vG),ah (gR o1 5),.ab 0 (az (au (gR o1 6)))]else H2 G N n [aa r0,iI i1,cC i2,J (sT (ba (gC o1 1)) vH),J [aa (gR (gC o1 2) 0),aa (gR (gC o1 2) 1)],J [iI (gI (gC o1 3) 0)],J (sT (aF (gC o1 4)) vG),ah (gR o1 5),.ab 0 (az (au (gR o1 6)))]else aN [J (sT (ba l3) vH),J [aa (gR l4 0),aa (gR l4 1)],J [iI (gI l5 0)],J (sT (aF l6) vG),ah r7,.ab 0 (az (au r8))]:aJ):=by kernel_rfl
def acm:bZ CX EE G N TP [aa r0,J l1,J l2,J l3,J l4,ah r5,.ab 0 r6]=(bO (H2 G N N [aa r0,iI (ln r0),iI 0,J (sT (ba l1) vH),J [aa (gR l2 0),aa (gR l2 1)],J [iI (gI l3 0)],J (sT (aF l4) vG),ah r5,.ab 0 (az (au r6))]) λq2 o2=>bif bQ q2 then ae [iI (gI o2 0),J (sT (ba (gC o2 1)) vH),J [aa (gR (gC o2 2) 0),aa (gR (gC o2 2) 1)],J [iI (gI (gC o2 3) 0)],J (sT (aF (gC o2 4)) vG),ah (gR o2 5),.ab 0 (az (au (gR o2 6)))]else ae [iI (-1),J (sT (ba (gC o2 0)) vH),J [aa (gR (gC o2 1) 0),aa (gR (gC o2 1) 1)],J [iI (gI (gC o2 2) 0)],J (sT (aF (gC o2 3)) vG),ah (gR o2 4),.ab 0 (az (au (gR o2 5)))]:aJ):=by kernel_rfl
def apV:bZ CX EE G N TL [aa r0,J l1,J l2,J l3,J l4,ah r5,.ab 0 r6]=(bO (G TP [aa r0,J (sT (ba l1) vH),J [aa (gR l2 0),aa (gR l2 1)],J [iI (gI l3 0)],J (sT (aF l4) vG),ah r5,.ab 0 (az (au r6))]) λ_ o1=>ae [ak (cg 0 (gI o1 0)),J (sT (ba (gC o1 1)) vH),J [aa (gR (gC o1 2) 0),aa (gR (gC o1 2) 1)],J [iI (gI (gC o1 3) 0)],J (sT (aF (gC o1 4)) vG),ah (gR o1 5),.ab 0 (az (au (gR o1 6)))]:aJ):=by kernel_rfl
def ats:U5 G N [J l0,ah r1,.ab 0 r2,J l3,J l4]=(bif gI l4 3==gI l3 1 then aN [aq,J (sT (aF l0) aM),ah r1,.ab 0 (az (au r2)),J (sT (ba l3) bF),av l4]else bO (G EH [J (sT (ba l3) bF),iI (gI l4 3),iI (gI l4 5),J (sT (aF l0) aM),ah r1,.ab 0 (az (au r2))]) λ_ o1=>bif !(gB o1 0)then aN [aq,J (sT (aF (gC o1 1)) aM),ah (gR o1 2),.ab 0 (az (au (gR o1 3))),J (sT (ba l3) bF),av l4]else ae [J (sT (aF (gC o1 1)) aM),ah (gR o1 2),.ab 0 (az (au (gR o1 3))),J (sT (ba l3) bF),av l4]:aJ):=by kernel_rfl
def asI:MX G N [J l0,ah r1,.ab 0 r2,J l3,J l4]=(bif ln (gR l3 13) != ln (gR l4 0)then aN [aq,J (sT (aF l0) aM),ah r1,.ab 0 (az (au r2)),av l3,J [aa (gR l4 0),aa (gR l4 1)]]else bif ln (gR l3 15) != ln (gR l4 1)then aN [aq,J (sT (aF l0) aM),ah r1,.ab 0 (az (au r2)),av l3,J [aa (gR l4 0),aa (gR l4 1)]]else ae [J (sT (aF l0) aM),ah r1,.ab 0 (az (au r2)),av l3,J [aa (gR l4 0),aa (gR l4 1)]]:aJ):=by kernel_rfl
def acY:MR G N (n+1) [aT r0,iI i1,iI i2,J l3,ah r4,.ab 0 r5,J l6,J l7]=(bif aU i2 i1 then bp i2 r0<|bp i2 (gR l7 0)<|bO (G zN [J (sT (ba l6) bF),bS (aD r0 i2),aa (([[iI (gI (aD (gR l7 0) i2) 0)]]:aW)),J (sT (aF l3) aM),ah r4,.ab 0 (az (au r5))]) λ_ o4=>bif !(gB o4 0)then ae [aq,J (sT (aF (gC o4 1)) aM),ah (gR o4 2),.ab 0 (az (au (gR o4 3))),J (sT (ba l6) bF),J [aa (gR l7 0),aa (gR l7 1)]]else MR G N n [aT r0,iI i1,cC i2,J (sT (aF (gC o4 1)) aM),ah (gR o4 2),.ab 0 (az (au (gR o4 3))),J (sT (ba l6) bF),J [aa (gR l7 0),aa (gR l7 1)]]else aN [J (sT (aF l3) aM),ah r4,.ab 0 (az (au r5)),J (sT (ba l6) bF),J [aa (gR l7 0),aa (gR l7 1)]]:aJ):=by kernel_rfl
def asH:UK G N [J l0,ah r1,.ab 0 r2,J l3,J l4,J l5]=(bO (MR G N N [aT (gR l4 13),iI (ln (gR l4 13)),iI 0,J (sT (aF l0) aM),ah r1,.ab 0 (az (au r2)),J (sT (ba l3) bF),J [aa (gR l5 0),aa (gR l5 1)]]) λq5 o5=>bif bQ q5 then aN [ak (gB o5 0),J (sT (aF (gC o5 1)) aM),ah (gR o5 2),.ab 0 (az (au (gR o5 3))),J (sT (ba (gC o5 4)) bF),av l4,J [aa (gR (gC o5 5) 0),aa (gR (gC o5 5) 1)]]else ae [J (sT (aF (gC o5 0)) aM),ah (gR o5 1),.ab 0 (az (au (gR o5 2))),J (sT (ba (gC o5 3)) bF),av l4,J [aa (gR (gC o5 4) 0),aa (gR (gC o5 4) 1)]]:aJ):=by kernel_rfl
def Uh:EA G N (n+1) [bH r0,iI i1,iI i2,J l3,ah r4,.ab 0 r5,J l6,J l7]=(bif aU i2 i1 then bp i2 r0<|bO (G BH [J (sT (ba l6) bF),eE (aD r0 i2),J (sT (aF l3) aM),ah r4,.ab 0 (az (au r5))]) λ_ o7=>bif !(gB o7 1)then ae [aq,J (sT (aF (gC o7 2)) aM),ah (gR o7 3),.ab 0 (az (au (gR o7 4))),J (sT (ba l6) bF),J [aa (gR l7 0),aa (gR l7 1)]]else bO (G TL [aa (gR o7 0),J (sT (ba l6) vH),J [aa (gR l7 0),aa (gR l7 1)],J [iI i2],J (sT (aF (gC o7 2)) vG),ah (gR o7 3),.ab 0 (az (au (gR o7 4)))]) λ_ o8=>bif gB o8 0 then ae [aq,J (sT (aF (gC o8 4)) aM),ah (gR o8 5),.ab 0 (az (au (gR o8 6))),J (sT (ba (gC o8 1)) bF),J [aa (gR (gC o8 2) 0),aa (gR (gC o8 2) 1)]]else EA G N n [bH r0,iI i1,cC i2,J (sT (aF (gC o8 4)) aM),ah (gR o8 5),.ab 0 (az (au (gR o8 6))),J (sT (ba (gC o8 1)) bF),J [aa (gR (gC o8 2) 0),aa (gR (gC o8 2) 1)]]else aN [J (sT (aF l3) aM),ah r4,.ab 0 (az (au r5)),J (sT (ba l6) bF),J [aa (gR l7 0),aa (gR l7 1)]]:aJ):=by kernel_rfl
def adN:bZ CX EE G N Nj [J l0,J l1,J l2,ah r3,.ab 0 r4]=(bO (U5 G N [J (sT (aF l2) aM),ah r3,.ab 0 (az (au r4)),J (sT (ba l0) bF),av l1]) λq2 o2=>bif bQ q2 then bp (gI (gC o2 4) 3) (gR (gC o2 0) 4)<|bp (gI (gC o2 4) 5) (gR (aD (gR (gC o2 0) 4) (gI (gC o2 4) 3)) 1)<|bO (MX G N [J (sT (aF (gC o2 0)) aM),ah (gR o2 1),.ab 0 (az (au (gR o2 2))),av (gC o2 4),J [aa (gR (aD (gR (aD (gR (gC o2 0) 4) (gI (gC o2 4) 3)) 1) (gI (gC o2 4) 5)) 0),aa (gR (aD (gR (aD (gR (gC o2 0) 4) (gI (gC o2 4) 3)) 1) (gI (gC o2 4) 5)) 1)]]) λq3 o3=>bif bQ q3 then bO (UK G N [J (sT (aF (gC o3 0)) aM),ah (gR o3 1),.ab 0 (az (au (gR o3 2))),J (sT (ba (gC o2 3)) bF),av (gC o3 3),J [aa (gR (gC o3 4) 0),aa (gR (gC o3 4) 1)]]) λq6 o6=>bif bQ q6 then bO (EA G N N [bH (gR (gC o6 4) 15),iI (ln (gR (gC o6 4) 15)),iI 0,J (sT (aF (gC o6 0)) aM),ah (gR o6 1),.ab 0 (az (au (gR o6 2))),J (sT (ba (gC o6 3)) bF),J [aa (gR (gC o6 5) 0),aa (gR (gC o6 5) 1)]]) λq9 o9=>bif bQ q9 then ae [ak (gB o9 0),J (sT (aF (gC o9 1)) aM),ah (gR o9 2),.ab 0 (az (au (gR o9 3)))]else ae [cw,J (sT (aF (gC o9 0)) aM),ah (gR o9 1),.ab 0 (az (au (gR o9 2)))]else ae [ak (gB o6 0),J (sT (aF (gC o6 1)) aM),ah (gR o6 2),.ab 0 (az (au (gR o6 3)))]else ae [ak (gB o3 0),J (sT (aF (gC o3 1)) aM),ah (gR o3 2),.ab 0 (az (au (gR o3 3)))]else ae [ak (gB o2 0),J (sT (aF (gC o2 1)) aM),ah (gR o2 2),.ab 0 (az (au (gR o2 3)))]:aJ):=by kernel_rfl
def awn:bZ CX EE G N Np [J l0,iI i1,J l2,ah r3,.ab 0 r4]=(bO (G EH [J (sT (ba l0) bF),iI (gI l0 1),iI i1,J (sT (aF l2) aM),ah r3,.ab 0 (az (au r4))]) λ_ o1=>bif gB o1 0 then bO (G sD [aa (gR l0 4),iI i1]) λ_ o2=>ae [ak (!(gB o2 0)),J (sT (aF (gC o1 1)) aM),ah (gR o1 2),.ab 0 (az (au (gR o1 3)))]else ae [aq,J (sT (aF (gC o1 1)) aM),ah (gR o1 2),.ab 0 (az (au (gR o1 3)))]:aJ):=by kernel_rfl
def asS:bZ CX EE G N UD [iI i0,iI i1,J l2,J l3,ah r4,.ab 0 r5]=(bp i0 (gR l3 0)<|bp i1 (gR l3 0)<|bO (G Jg [gW (aD (gR l3 0) i0),gW (aD (gR l3 0) i1)]) λ_ o1=>bif gB o1 0 then bp i1 (gR l3 0)<|bp i0 (gR l3 0)<|bO (G Jg [gW (aD (gR l3 0) i1),gW (aD (gR l3 0) i0)]) λ_ o2=>ae [ak (gB o2 0),J (sT (ba l2) gz),J (sT (aF l3) gw),ah r4,.ab 0 (az (au r5))]else ae [aq,J (sT (ba l2) gz),J (sT (aF l3) gw),ah r4,.ab 0 (az (au r5))]:aJ):=by kernel_rfl
def aca:Mt G N (n+1) [aa r0,aa r1,iI i2,iI i3,J l4,J l5,ah r6,.ab 0 r7]=(bif aU i3 i2 then bp i3 r1<|bp i3 r0<|bO (G UD [iI (gI (aD r1 i3) 0),iI (gI (aD r0 i3) 0),J (sT (ba l4) gz),J (sT (aF l5) gw),ah r6,.ab 0 (az (au r7))]) λ_ o1=>bif !(gB o1 0)then ae [aq,J (sT (ba (gC o1 1)) gz),J (sT (aF (gC o1 2)) gw),ah (gR o1 3),.ab 0 (az (au (gR o1 4)))]else Mt G N n [aa r0,aa r1,iI i2,cC i3,J (sT (ba (gC o1 1)) gz),J (sT (aF (gC o1 2)) gw),ah (gR o1 3),.ab 0 (az (au (gR o1 4)))]else aN [J (sT (ba l4) gz),J (sT (aF l5) gw),ah r6,.ab 0 (az (au r7))]:aJ):=by kernel_rfl
def ap9:bZ CX EE G N Mz [aa r0,aa r1,J l2,J l3,ah r4,.ab 0 r5]=(bif ln r0 != ln r1 then ae [aq,J (sT (ba l2) gz),J (sT (aF l3) gw),ah r4,.ab 0 (az (au r5))]else bO (Mt G N N [aa r1,aa r0,iI (ln r0),iI 0,J (sT (ba l2) gz),J (sT (aF l3) gw),ah r4,.ab 0 (az (au r5))]) λq2 o2=>bif bQ q2 then ae [ak (gB o2 0),J (sT (ba (gC o2 1)) gz),J (sT (aF (gC o2 2)) gw),ah (gR o2 3),.ab 0 (az (au (gR o2 4)))]else ae [cw,J (sT (ba (gC o2 0)) gz),J (sT (aF (gC o2 1)) gw),ah (gR o2 2),.ab 0 (az (au (gR o2 3)))]:aJ):=by kernel_rfl
def asG:UJ G N [J l0,ah r1,.ab 0 r2,J l3,J l4]=(bif aU (gI l3 10) 0 then aN [aq,J (sT (aF l0) aM),ah r1,.ab 0 (az (au r2)),J (sT (ba l3) bF),av l4]else bO (G EH [J (sT (ba l3) bF),iI (gI l4 3),iI (gI l4 5),J (sT (aF l0) aM),ah r1,.ab 0 (az (au r2))]) λ_ o1=>bif !(gB o1 0)then aN [aq,J (sT (aF (gC o1 1)) aM),ah (gR o1 2),.ab 0 (az (au (gR o1 3))),J (sT (ba l3) bF),av l4]else bif gI l4 3==gI l3 1 then bif gI l4 5==gI l3 10 then aN [aq,J (sT (aF (gC o1 1)) aM),ah (gR o1 2),.ab 0 (az (au (gR o1 3))),J (sT (ba l3) bF),av l4]else ae [J (sT (aF (gC o1 1)) aM),ah (gR o1 2),.ab 0 (az (au (gR o1 3))),J (sT (ba l3) bF),av l4]else ae [J (sT (aF (gC o1 1)) aM),ah (gR o1 2),.ab 0 (az (au (gR o1 3))),J (sT (ba l3) bF),av l4]:aJ):=by kernel_rfl
def adB:bZ CX EE G N Va [J l0,J l1,J l2,ah r3,.ab 0 r4]=(bO (UJ G N [J (sT (aF l2) aM),ah r3,.ab 0 (az (au r4)),J (sT (ba l0) bF),av l1]) λq2 o2=>bif bQ q2 then bp (gI (gC o2 3) 1) (gR (gC o2 0) 4)<|bp (gI (gC o2 3) 10) (gR (aD (gR (gC o2 0) 4) (gI (gC o2 3) 1)) 1)<|bp (gI (gC o2 4) 3) (gR (gC o2 0) 4)<|bp (gI (gC o2 4) 5) (gR (aD (gR (gC o2 0) 4) (gI (gC o2 4) 3)) 1)<|bif bw ((ln (gR (aD (gR (aD (gR (gC o2 0) 4) (gI (gC o2 4) 3)) 1) (gI (gC o2 4) 5)) 0))+(ln (gR (aD (gR (aD (gR (gC o2 0) 4) (gI (gC o2 4) 3)) 1) (gI (gC o2 4) 5)) 1)))==0 then ae [cw,J (sT (aF (gC o2 0)) aM),ah (gR o2 1),.ab 0 (az (au (gR o2 2)))]else bO (G Mz [aa (gR (aD (gR (aD (gR (gC o2 0) 4) (gI (gC o2 3) 1)) 1) (gI (gC o2 3) 10)) 0),aa (gR (aD (gR (aD (gR (gC o2 0) 4) (gI (gC o2 4) 3)) 1) (gI (gC o2 4) 5)) 0),J (sT (ba (gC o2 3)) gz),J (sT (aF (gC o2 0)) gw),ah (gR o2 1),.ab 0 (az (au (gR o2 2)))]) λ_ o3=>bif gB o3 0 then bO (G Mz [aa (gR (aD (gR (aD (gR (gC o2 0) 4) (gI (gC o2 3) 1)) 1) (gI (gC o2 3) 10)) 1),aa (gR (aD (gR (aD (gR (gC o2 0) 4) (gI (gC o2 4) 3)) 1) (gI (gC o2 4) 5)) 1),J (sT (ba (gC o3 1)) gz),J (sT (aF (gC o3 2)) gw),ah (gR o3 3),.ab 0 (az (au (gR o3 4)))]) λ_ o4=>ae [ak (gB o4 0),J (sT (aF (gC o4 2)) aM),ah (gR o4 3),.ab 0 (az (au (gR o4 4)))]else ae [aq,J (sT (aF (gC o3 2)) aM),ah (gR o3 3),.ab 0 (az (au (gR o3 4)))]else ae [ak (gB o2 0),J (sT (aF (gC o2 1)) aM),ah (gR o2 2),.ab 0 (az (au (gR o2 3)))]:aJ):=by kernel_rfl
def aq1:T7 G N [J l0,ah r1,.ab 0 r2,J l3,J l4]=(bO (G BI [J [bJ (gR l0 0),iI (gI l0 1)],iI (gI l4 2),iI 0]) λ_ o5=>bif !(gB o5 0)then aN [aq,J (sT (aF l0) aM),ah r1,.ab 0 (az (au r2)),J (sT (ba l3) bF),av l4]else bp (gI l4 2) (gR l0 0)<|bif gB (aD (gR l0 0) (gI l4 2)) 3 then aN [aq,J (sT (aF l0) aM),ah r1,.ab 0 (az (au r2)),J (sT (ba l3) bF),av l4]else bp (gI l4 2) (gR l0 0)<|bif gI (aD (gR l0 0) (gI l4 2)) 0 != 1 then aN [aq,J (sT (aF l0) aM),ah r1,.ab 0 (az (au r2)),J (sT (ba l3) bF),av l4]else bO (G BO [J (sT (ba l3) bF),iI (gI l4 2),J (sT (aF l0) aM),ah r1,.ab 0 (az (au r2))]) λ_ o6=>bif !(gB o6 0)then aN [aq,J (sT (aF (gC o6 1)) aM),ah (gR o6 2),.ab 0 (az (au (gR o6 3))),J (sT (ba l3) bF),av l4]else bO (G sD [aa (gR l3 6),iI (gI l4 2)]) λ_ o7=>bif gB o7 0 then aN [aq,J (sT (aF (gC o6 1)) aM),ah (gR o6 2),.ab 0 (az (au (gR o6 3))),J (sT (ba l3) bF),av l4]else ae [J (sT (aF (gC o6 1)) aM),ah (gR o6 2),.ab 0 (az (au (gR o6 3))),J (sT (ba l3) bF),av l4]:aJ):=by kernel_rfl
def aqR:T3 G N [bE i0,J l1,ah r2,.ab 0 r3]=(bif i0==11 then ae [cw,J (sT (aF l1) aM),ah r2,.ab 0 (az (au r3))]else ae [ak (i0==15),J (sT (aF l1) aM),ah r2,.ab 0 (az (au r3))]:aJ):=by kernel_rfl
def aqH:T0 G N [bE i0,J l1,ah r2,.ab 0 r3]=(bif i0==12 then ae [cw,J (sT (aF l1) aM),ah r2,.ab 0 (az (au r3))]else ae [ak (i0==13),J (sT (aF l1) aM),ah r2,.ab 0 (az (au r3))]:aJ):=by kernel_rfl
end
noncomputable section
variable {G:Nat->bl->Option UO} {N n:Nat} {i0 i1 i2:Int} {l0 l1 l2 l3 l4 l5 l6 l7:bl} {r0 r1 r2 r3 r4 r5 r6 r8:aW}
def uW:bZ CX EE G N Im [J l0,J l1,J l2,ah r3,.ab 0 r4]=(bif gI l1 0==2 then aR (aU 0 (ln (gR l1 14)))<|bO (G BH [J (sT (ba l0) bF),eE (gA (gR l1 14) 0),J (sT (aF l2) aM),ah r3,.ab 0 (az (au r4))]) λ_ o1=>bif gB o1 1 then aR (aU 0 (ln (gR l1 12)))<|bO (G zN [J (sT (ba l0) bF),bS (gA (gR l1 12) 0),aa (gR o1 0),J (sT (aF (gC o1 2)) aM),ah (gR o1 3),.ab 0 (az (au (gR o1 4)))]) λ_ o2=>ae [ak (gB o2 0),J (sT (aF (gC o2 1)) aM),ah (gR o2 2),.ab 0 (az (au (gR o2 3)))]else ae [aq,J (sT (aF (gC o1 2)) aM),ah (gR o1 3),.ab 0 (az (au (gR o1 4)))]else bif gI l1 0==4 then aR (aU 0 (ln (gR l1 12)))<|bO (G H8 [J (sT (ba l0) bF),bS (gA (gR l1 12) 0),J (sT (aF l2) aM),ah r3,.ab 0 (az (au r4))]) λ_ o3=>ae [ak (gB o3 0),J (sT (aF (gC o3 1)) aM),ah (gR o3 2),.ab 0 (az (au (gR o3 3)))]else bif gI l1 0==5 then aR (aU 0 (ln (gR l1 12)))<|bO (G H8 [J (sT (ba l0) bF),bS (gA (gR l1 12) 0),J (sT (aF l2) aM),ah r3,.ab 0 (az (au r4))]) λ_ o4=>ae [ak (gB o4 0),J (sT (aF (gC o4 1)) aM),ah (gR o4 2),.ab 0 (az (au (gR o4 3)))]else bif gI l1 0==6 then bO (T7 G N [J (sT (aF l2) aM),ah r3,.ab 0 (az (au r4)),J (sT (ba l0) bF),av l1]) λq8 o8=>bif bQ q8 then aR (aU 0 (ln (gR (gC o8 4) 12)))<|bO (G wF [J (sT (ba (gC o8 3)) bF),bS (gA (gR (gC o8 4) 12) 0),J (sT (aF (gC o8 0)) aM),ah (gR o8 1),.ab 0 (az (au (gR o8 2)))]) λ_ o9=>bif gB o9 0 then aR (aU 1 (ln (gR (gC o8 4) 12)))<|bO (G wF [J (sT (ba (gC o8 3)) bF),bS (gA (gR (gC o8 4) 12) 1),J (sT (aF (gC o9 1)) aM),ah (gR o9 2),.ab 0 (az (au (gR o9 3)))]) λ_ cV=>bif gB cV 0 then aR (aU 0 (ln (gR (gC o8 4) 12)))<|bO (G zN [J (sT (ba (gC o8 3)) bF),bS (gA (gR (gC o8 4) 12) 0),aa (([[iI (gI (gC o8 4) 2)]]:aW)),J (sT (aF (gC cV 1)) aM),ah (gR cV 2),.ab 0 (az (au (gR cV 3)))]) λ_ cX=>bif gB cX 0 then aR (aU 1 (ln (gR (gC o8 4) 12)))<|bO (G zN [J (sT (ba (gC o8 3)) bF),bS (gA (gR (gC o8 4) 12) 1),aa (([[iI (gI (gC o8 4) 2)]]:aW)),J (sT (aF (gC cX 1)) aM),ah (gR cX 2),.ab 0 (az (au (gR cX 3)))]) λ_ dj=>ae [ak (gB dj 0),J (sT (aF (gC dj 1)) aM),ah (gR dj 2),.ab 0 (az (au (gR dj 3)))]else ae [aq,J (sT (aF (gC cX 1)) aM),ah (gR cX 2),.ab 0 (az (au (gR cX 3)))]else ae [aq,J (sT (aF (gC cV 1)) aM),ah (gR cV 2),.ab 0 (az (au (gR cV 3)))]else ae [aq,J (sT (aF (gC o9 1)) aM),ah (gR o9 2),.ab 0 (az (au (gR o9 3)))]else ae [ak (gB o8 0),J (sT (aF (gC o8 1)) aM),ah (gR o8 2),.ab 0 (az (au (gR o8 3)))]else bif gI l1 0==7 then bif cg 1 (gI l1 1)then bif cg (gI l1 1) 8192 then bO (G sD [aa (gR l0 3),iI (gI l1 1)]) λ_ fe=>ae [ak (!(gB fe 0)),J (sT (aF l2) aM),ah r3,.ab 0 (az (au r4))]else ae [aq,J (sT (aF l2) aM),ah r3,.ab 0 (az (au r4))]else ae [aq,J (sT (aF l2) aM),ah r3,.ab 0 (az (au r4))]else bif gI l1 0==8 then bO (G sD [aa (gR l0 2),iI (gI l1 1)]) λ_ dc=>ae [ak (gB dc 0),J (sT (aF l2) aM),ah r3,.ab 0 (az (au r4))]else bif gI l1 0==10 then bif gI l1 1==0 then bif gB l0 9 then ae [cw,J (sT (aF l2) aM),ah r3,.ab 0 (az (au r4))]else bif cg 1 (gI l1 1)then ae [ak (cg (gI l1 1) (gI l2 3)),J (sT (aF l2) aM),ah r3,.ab 0 (az (au r4))]else ae [aq,J (sT (aF l2) aM),ah r3,.ab 0 (az (au r4))]else bif cg 1 (gI l1 1)then ae [ak (cg (gI l1 1) (gI l2 3)),J (sT (aF l2) aM),ah r3,.ab 0 (az (au r4))]else ae [aq,J (sT (aF l2) aM),ah r3,.ab 0 (az (au r4))]else bO (T3 G N [bE (gI l1 0),J (sT (aF l2) aM),ah r3,.ab 0 (az (au r4))]) λ_ dr=>bif gB dr 0 then aR (aU 0 (ln (gR l1 12)))<|bO (G wF [J (sT (ba l0) bF),bS (gA (gR l1 12) 0),J (sT (aF (gC dr 1)) aM),ah (gR dr 2),.ab 0 (az (au (gR dr 3)))]) λ_ fX=>ae [ak (gB fX 0),J (sT (aF (gC fX 1)) aM),ah (gR fX 2),.ab 0 (az (au (gR fX 3)))]else bO (T0 G N [bE (gI l1 0),J (sT (aF (gC dr 1)) aM),ah (gR dr 2),.ab 0 (az (au (gR dr 3)))]) λ_ du=>bif gB du 0 then aR (aU 0 (ln (gR l1 14)))<|bO (G Ic [J (sT (ba l0) bF),eE (gA (gR l1 14) 0),J (sT (aF (gC du 1)) aM),ah (gR du 2),.ab 0 (az (au (gR du 3)))]) λ_ gG=>ae [ak (gB gG 0),J (sT (aF (gC gG 1)) aM),ah (gR gG 2),.ab 0 (az (au (gR gG 3)))]else bif gI l1 0==14 then bif gB l1 6 then aR (aU 0 (ln (gR l1 14)))<|bO (G Ic [J (sT (ba l0) bF),eE (gA (gR l1 14) 0),J (sT (aF (gC du 1)) aM),ah (gR du 2),.ab 0 (az (au (gR du 3)))]) λ_ iH=>bif gB iH 0 then bO (G sD [aa (gR l0 5),iI (gI l1 4)]) λ_ sj=>bif gB sj 0 then bO (G Ni [J (sT (ba l0) bF),iI (gI l1 4),iI (gI l1 5),J (sT (aF (gC iH 1)) aM),ah (gR iH 2),.ab 0 (az (au (gR iH 3)))]) λ_ iZ=>ae [ak (gB iZ 0),J (sT (aF (gC iZ 1)) aM),ah (gR iZ 2),.ab 0 (az (au (gR iZ 3)))]else ae [aq,J (sT (aF (gC iH 1)) aM),ah (gR iH 2),.ab 0 (az (au (gR iH 3)))]else ae [aq,J (sT (aF (gC iH 1)) aM),ah (gR iH 2),.ab 0 (az (au (gR iH 3)))]else aR (aU 0 (ln (gR l1 14)))<|bO (G Ic [J (sT (ba l0) bF),eE (gA (gR l1 14) 0),J (sT (aF (gC du 1)) aM),ah (gR du 2),.ab 0 (az (au (gR du 3)))]) λ_ vZ=>bif gB vZ 0 then bO (G EH [J (sT (ba l0) bF),iI (gI l0 1),iI (gI l1 5),J (sT (aF (gC vZ 1)) aM),ah (gR vZ 2),.ab 0 (az (au (gR vZ 3)))]) λ_ Hp=>ae [ak (gB Hp 0),J (sT (aF (gC Hp 1)) aM),ah (gR Hp 2),.ab 0 (az (au (gR Hp 3)))]else ae [aq,J (sT (aF (gC vZ 1)) aM),ah (gR vZ 2),.ab 0 (az (au (gR vZ 3)))]else bif gI l1 0==16 then bO (G Il [J (sT (ba l0) bF),av l1,J (sT (aF (gC du 1)) aM),ah (gR du 2),.ab 0 (az (au (gR du 3)))]) λ_ jA=>bif gB jA 0 then bO (G Nj [J (sT (ba l0) bF),av l1,J (sT (aF (gC jA 1)) aM),ah (gR jA 2),.ab 0 (az (au (gR jA 3)))]) λ_ Ho=>ae [ak (gB Ho 0),J (sT (aF (gC Ho 1)) aM),ah (gR Ho 2),.ab 0 (az (au (gR Ho 3)))]else ae [aq,J (sT (aF (gC jA 1)) aM),ah (gR jA 2),.ab 0 (az (au (gR jA 3)))]else bif gI l1 0==17 then bO (G Il [J (sT (ba l0) bF),av l1,J (sT (aF (gC du 1)) aM),ah (gR du 2),.ab 0 (az (au (gR du 3)))]) λ_ zh=>bif gB zh 0 then bO (G Ni [J (sT (ba l0) bF),iI (gI l1 4),iI (gI l1 5),J (sT (aF (gC zh 1)) aM),ah (gR zh 2),.ab 0 (az (au (gR zh 3)))]) λ_ Hn=>ae [ak (gB Hn 0),J (sT (aF (gC Hn 1)) aM),ah (gR Hn 2),.ab 0 (az (au (gR Hn 3)))]else ae [aq,J (sT (aF (gC zh 1)) aM),ah (gR zh 2),.ab 0 (az (au (gR zh 3)))]else bif gI l1 0==18 then bO (G Np [J (sT (ba l0) bF),iI (gI l1 5),J (sT (aF (gC du 1)) aM),ah (gR du 2),.ab 0 (az (au (gR du 3)))]) λ_ S6=>ae [ak (gB S6 0),J (sT (aF (gC S6 1)) aM),ah (gR S6 2),.ab 0 (az (au (gR S6 3)))]else bif gI l1 0==20 then bif cg 0 (gI l1 4)then bif aU (gI l1 4) (ln (gR (gC du 1) 5))then bO (G sD [aa (gR l0 5),iI (gI l1 4)]) λ_ o29=>bif !(gB o29 0)then bif ln (gR l0 5)==0 then ae [cw,J (sT (aF (gC du 1)) aM),ah (gR du 2),.ab 0 (az (au (gR du 3)))]else bp (gI l1 4) (gR (gC du 1) 5)<|ae [ak (ln (gR (aD (gR (gC du 1) 5) (gI l1 4)) 2)==0),J (sT (aF (gC du 1)) aM),ah (gR du 2),.ab 0 (az (au (gR du 3)))]else ae [aq,J (sT (aF (gC du 1)) aM),ah (gR du 2),.ab 0 (az (au (gR du 3)))]else ae [aq,J (sT (aF (gC du 1)) aM),ah (gR du 2),.ab 0 (az (au (gR du 3)))]else ae [aq,J (sT (aF (gC du 1)) aM),ah (gR du 2),.ab 0 (az (au (gR du 3)))]else bif gI l1 0==21 then bO (G Va [J (sT (ba l0) bF),av l1,J (sT (aF (gC du 1)) aM),ah (gR du 2),.ab 0 (az (au (gR du 3)))]) λ_ S5=>ae [ak (gB S5 0),J (sT (aF (gC S5 1)) aM),ah (gR S5 2),.ab 0 (az (au (gR S5 3)))]else bif gI l1 0==22 then bif cg 1 (ln (gR l1 16))then bif cg (ln (gR l1 16)) 32 then bO (G IS [aa (gR l1 16),iI 1,iI (bw ((ln (gR (gC du 1) 4))- 1))]) λ_ o31=>ae [ak (gB o31 0),J (sT (aF (gC du 1)) aM),ah (gR du 2),.ab 0 (az (au (gR du 3)))]else ae [aq,J (sT (aF (gC du 1)) aM),ah (gR du 2),.ab 0 (az (au (gR du 3)))]else ae [aq,J (sT (aF (gC du 1)) aM),ah (gR du 2),.ab 0 (az (au (gR du 3)))]else ae [cw,J (sT (aF (gC du 1)) aM),ah (gR du 2),.ab 0 (az (au (gR du 3)))]:aJ):=by kernel_rfl
def aul:bZ CX EE G N EG [J l0,J l1,ah r2,.ab 0 r3]=(ae [J (sT (ba l0) [(0,.ptr 0 0 0),(2,aa cy),(9,aq),(10,iI (-1))]),J (sT (aF l1) aM),ah r2,.ab 0 (az (au r3))]:aJ):=by kernel_rfl
def asJ:UL G N [J l0,ah r1,.ab 0 r2,J l3,J l4]=(bif aU 256 (ln (gR l4 18))then aN [aq,J (sT (aF l0) aM),ah r1,.ab 0 (az (au r2)),J (sT (ba l3) bF),av l4]else bif aU 16 (ln (gR l4 19))then aN [aq,J (sT (aF l0) aM),ah r1,.ab 0 (az (au r2)),J (sT (ba l3) bF),av l4]else bO (G IS [aa (gR l4 16),iI (bw (gI l3 1+1)),iI (bw (ln (gR l0 4)- 1))]) λ_ o1=>bif !(gB o1 0)then aN [aq,J (sT (aF l0) aM),ah r1,.ab 0 (az (au r2)),J (sT (ba l3) bF),av l4]else ae [J (sT (aF l0) aM),ah r1,.ab 0 (az (au r2)),J (sT (ba l3) bF),av l4]:aJ):=by kernel_rfl
def acZ:EB G N (n+1) [aa r0,iI i1,iI i2,J l3,ah r4,.ab 0 r5,J l6]=(bif aU i2 i1 then bp i2 r0<|match aA.dR (au r5) (iI (gI (aD r0 i2) 0))with|some m3=>(EB G N n [aa r0,iI i1,cC i2,J (sT (aF l3) aM),ah r4,.ab 0 (az (aA.iV (au r5) (iI (gI (aD r0 i2) 0)) (iI (bw (m3.toI+1))))),J (sT (ba l6) bF)])|none=>(EB G N n [aa r0,iI i1,cC i2,J (sT (aF l3) aM),ah r4,.ab 0 (az (aA.iV (au r5) (iI (gI (aD r0 i2) 0)) (iI 1))),J (sT (ba l6) bF)])else ae [J (sT (aF l3) aM),ah r4,.ab 0 (az (au r5)),J (sT (ba l6) bF)]:aJ):=by kernel_rfl
def asc:Uy G N [J l0,ah r1,.ab 0 r2,J l3,J l4]=(bO (EB G N N [aa (gR l4 16),iI (ln (gR l4 16)),iI 0,J (sT (aF l0) aM),ah r1,.ab 0 (az (au r2)),J (sT (ba l3) bF)]) λ_ o4=>ae [J (sT (aF (gC o4 0)) aM),ah (gR o4 1),.ab 0 (az (au (gR o4 2))),J (sT (ba (gC o4 3)) bF),av l4]:aJ):=by kernel_rfl
def MH:H9 G N (n+1) [dh r0,iI i1,iI i2,J l3,ah r4,.ab 0 r5,J l6,J l7]=(bif aU i2 i1 then bp i2 r0<|bO (G kq [J (sT (ba l6) bF),av (aD r0 i2),J (sT (aF l3) aM),ah r4,.ab 0 (az (au r5))]) λ_ o8=>bif !(gB o8 0)then ae [aq,J (sT (aF (gC o8 1)) aM),ah (gR o8 2),.ab 0 (az (au (gR o8 3))),J (sT (ba l6) bF),J (sT (ba l7) bF)]else bO (G kq [J (sT (ba l7) bF),J (cP dG 21 (aD r0 i2)),J (sT (aF (gC o8 1)) aM),ah (gR o8 2),.ab 0 (az (au (gR o8 3)))]) λ_ o9=>bif !(gB o9 0)then ae [aq,J (sT (aF (gC o9 1)) aM),ah (gR o9 2),.ab 0 (az (au (gR o9 3))),J (sT (ba l6) bF),J (sT (ba l7) bF)]else H9 G N n [dh r0,iI i1,cC i2,J (sT (aF (gC o9 1)) aM),ah (gR o9 2),.ab 0 (az (au (gR o9 3))),J (sT (ba l6) bF),J (sT (ba l7) bF)]else aN [J (sT (aF l3) aM),ah r4,.ab 0 (az (au r5)),J (sT (ba l6) bF),J (sT (ba l7) bF)]:aJ):=by kernel_rfl
def arE:Un G N [J l0,ah r1,.ab 0 r2,J l3,J l4,J l5]=(bO (H9 G N N [dh (gR l3 18),iI (ln (gR l3 18)),iI 0,J (sT (aF l0) aM),ah r1,.ab 0 (az (au r2)),J (sT (ba l4) bF),J (sT (ba l5) bF)]) λmO cV=>bif bQ mO then aN [ak (gB cV 0),J (sT (aF (gC cV 1)) aM),ah (gR cV 2),.ab 0 (az (au (gR cV 3))),av l3,J (sT (ba (gC cV 4)) bF),J (sT (ba (gC cV 5)) bF)]else ae [J (sT (aF (gC cV 0)) aM),ah (gR cV 1),.ab 0 (az (au (gR cV 2))),av l3,J (sT (ba (gC cV 3)) bF),J (sT (ba (gC cV 4)) bF)]:aJ):=by kernel_rfl
def aqJ:T1 G N [iI i0,J l1,ah r2,.ab 0 r3,J l4,J l5,J l6]=(bif ln (gR l6 0)==0 then bif aU i0 (bw (ln (gR l5 19)- 1))then aN [aq,J (sT (aF l1) aM),ah r2,.ab 0 (az (au r3)),J (sT (ba l4) bF),av l5,oc l6]else bO (G E7 [aa (gR l6 0),iI 1,iI (gI l1 3)]) λ_ fe=>bif !(gB fe 0)then aN [aq,J (sT (aF l1) aM),ah r2,.ab 0 (az (au r3)),J (sT (ba l4) bF),av l5,oc l6]else ae [J (sT (aF l1) aM),ah r2,.ab 0 (az (au r3)),J (sT (ba l4) bF),av l5,oc l6]else bO (G E7 [aa (gR l6 0),iI 1,iI (gI l1 3)]) λ_ dc=>bif !(gB dc 0)then aN [aq,J (sT (aF l1) aM),ah r2,.ab 0 (az (au r3)),J (sT (ba l4) bF),av l5,oc l6]else ae [J (sT (aF l1) aM),ah r2,.ab 0 (az (au r3)),J (sT (ba l4) bF),av l5,oc l6]:aJ):=by kernel_rfl
def TY:Er G N (n+1) [aa r0,iI i1,iI i2,J l3,ah r4,.ab 0 r5,.ab 0 r6]=(bif aU i2 i1 then bp i2 r0<|match aA.dR (au r6) (iI (gI (aD r0 i2) 0))with|some m16=>(bif m16.toB then ae [aq,J (sT (aF l3) aM),ah r4,.ab 0 (az (au r5)),.ab 0 (az (au r6))]else Er G N n [aa r0,iI i1,cC i2,J (sT (aF l3) aM),ah r4,.ab 0 (az (au r5)),.ab 0 (az (aA.iV (au r6) (iI (gI (aD r0 i2) 0)) (cw)))])|none=>(Er G N n [aa r0,iI i1,cC i2,J (sT (aF l3) aM),ah r4,.ab 0 (az (au r5)),.ab 0 (az (aA.iV (au r6) (iI (gI (aD r0 i2) 0)) (cw)))])else aN [J (sT (aF l3) aM),ah r4,.ab 0 (az (au r5)),.ab 0 (az (au r6))]:aJ):=by kernel_rfl
def acK:Es G N (n+1) [dg r0,iI i1,iI i2,J l3,ah r4,.ab 0 r5,J l6,J l7,.ab 0 r8]=(bif aU i2 i1 then bp i2 r0<|bO (T1 G N [iI i2,J (sT (aF l3) aM),ah r4,.ab 0 (az (au r5)),J (sT (ba l6) bF),av l7,oc (aD r0 i2)]) λvT dr=>bif bQ vT then bO (Er G N N [aa (gR (gC dr 5) 0),iI (ln (gR (gC dr 5) 0)),iI 0,J (sT (aF (gC dr 0)) aM),ah (gR dr 1),.ab 0 (az (au (gR dr 2))),.ab 0 (az (au r8))]) λvS du=>bif bQ vS then ae [ak (gB du 0),J (sT (aF (gC du 1)) aM),ah (gR du 2),.ab 0 (az (au (gR du 3))),J (sT (ba (gC dr 3)) bF),av (gC dr 4),.ab 0 (az (au (gR du 4)))]else bO (G kq [J (sT (ba (gC dr 3)) bF),J (cP dG 1 (gC dr 5)),J (sT (aF (gC du 0)) aM),ah (gR du 1),.ab 0 (az (au (gR du 2)))]) λ_ gG=>bif !(gB gG 0)then ae [aq,J (sT (aF (gC gG 1)) aM),ah (gR gG 2),.ab 0 (az (au (gR gG 3))),J (sT (ba (gC dr 3)) bF),av (gC dr 4),.ab 0 (az (au (gR du 3)))]else Es G N n [dg r0,iI i1,cC i2,J (sT (aF (gC gG 1)) aM),ah (gR gG 2),.ab 0 (az (au (gR gG 3))),J (sT (ba (gC dr 3)) bF),av (gC dr 4),.ab 0 (az (au (gR du 3)))]else ae [ak (gB dr 0),J (sT (aF (gC dr 1)) aM),ah (gR dr 2),.ab 0 (az (au (gR dr 3))),J (sT (ba (gC dr 4)) bF),av (gC dr 5),.ab 0 (az (au r8))]else aN [J (sT (aF l3) aM),ah r4,.ab 0 (az (au r5)),J (sT (ba l6) bF),av l7,.ab 0 (az (au r8))]:aJ):=by kernel_rfl
def auo:bZ CX EE G N Io [J l0,J l1,J l2,ah r3,.ab 0 r4]=(bO (UL G N [J (sT (aF l2) aM),ah r3,.ab 0 (az (au r4)),J (sT (ba l0) bF),av l1]) λq2 o2=>bif bQ q2 then bO (Uy G N [J (sT (aF (gC o2 0)) aM),ah (gR o2 1),.ab 0 (az (au (gR o2 2))),J (sT (ba (gC o2 3)) bF),av (gC o2 4)]) λ_ o5=>bO (G EG [J (sT (ba (gC o5 3)) bF),J (sT (aF (gC o5 0)) aM),ah (gR o5 1),.ab 0 (az (au (gR o5 2)))]) λ_ o6=>bO (G EG [J (sT (ba (gC o5 3)) bF),J (sT (aF (gC o6 1)) aM),ah (gR o6 2),.ab 0 (az (au (gR o6 3)))]) λ_ o7=>bO (Un G N [J (sT (aF (gC o7 1)) aM),ah (gR o7 2),.ab 0 (az (au (gR o7 3))),av (gC o5 4),J (sT (ba (gC o6 0)) [(0,.ptr 0 0 0),(7,cw)]),J (sT (ba (gC o7 0)) [(0,.ptr 0 0 0),(8,cw)])]) λre cX=>bif bQ re then aR (aU 0 (ln (gR (gC cX 3) 17)))<|bO (G kq [J (sT (ba (gC o5 3)) [(0,.ptr 0 0 0),(10,iI (-1))]),av (gA (gR (gC cX 3) 17) 0),J (sT (aF (gC cX 0)) aM),ah (gR cX 1),.ab 0 (az (au (gR cX 2)))]) λ_ dj=>bif !(gB dj 0)then ae [aq,J (sT (aF (gC dj 1)) aM),ah (gR dj 2),.ab 0 (az (au (gR dj 3)))]else bO (Es G N N [dg (gR (gC cX 3) 19),iI (ln (gR (gC cX 3) 19)),iI 0,J (sT (aF (gC dj 1)) aM),ah (gR dj 2),.ab 0 (az (au (gR dj 3))),J (sT (ba (gC o5 3)) [(0,.ptr 0 0 0),(9,cw),(10,iI (-1))]),av (gC cX 3),.ab 0 (az (([]:List (AV×AV))))]) λDP iH=>bif bQ DP then ae [ak (gB iH 0),J (sT (aF (gC iH 1)) aM),ah (gR iH 2),.ab 0 (az (au (gR iH 3)))]else ae [cw,J (sT (aF (gC iH 0)) aM),ah (gR iH 1),.ab 0 (az (au (gR iH 2)))]else ae [ak (gB cX 0),J (sT (aF (gC cX 1)) aM),ah (gR cX 2),.ab 0 (az (au (gR cX 3)))]else ae [ak (gB o2 0),J (sT (aF (gC o2 1)) aM),ah (gR o2 2),.ab 0 (az (au (gR o2 3)))]:aJ):=by kernel_rfl
end
noncomputable section
variable {G:Nat->bl->Option UO} {N n:Nat} {i0 i1 i2:Int} {l0 l1 l2 l3 l4 l5 l6:bl} {r0 r1 r2 r3 r4 r5 r6 r7:aW}
def asb:Ux G N [J l0,ah r1,.ab 0 r2,J l3]=(bif aU (ln (gR l3 20)) 1 then aN [aq,J (sT (aF l0) aM),ah r1,.ab 0 (az (au r2)),av l3]else bif aU 16 (ln (gR l3 20))then aN [aq,J (sT (aF l0) aM),ah r1,.ab 0 (az (au r2)),av l3]else bif !(gB l3 9)then aR (aU 0 (ln (gR l3 17)))<|bO (G u6 [av (gA (gR l3 17) 0)]) λ_ o1=>bif !(gB o1 0)then aN [aq,J (sT (aF l0) aM),ah r1,.ab 0 (az (au r2)),av l3]else ae [J (sT (aF l0) aM),ah r1,.ab 0 (az (au r2)),av l3]else ae [J (sT (aF l0) aM),ah r1,.ab 0 (az (au r2)),av l3]:aJ):=by kernel_rfl
def aqA:TZ G N [bE i0,J l1,ah r2,.ab 0 r3]=(bif i0==2 then ae [cw,J (sT (aF l1) aM),ah r2,.ab 0 (az (au r3))]else ae [ak (i0==3),J (sT (aF l1) aM),ah r2,.ab 0 (az (au r3))]:aJ):=by kernel_rfl
def aqI:BB G N [bE i0,J l1,ah r2,.ab 0 r3,J l4,J l5,J l6]=(bif i0==1 then bif aU 0 (ln (gR l5 11))then aN [aq,J (sT (aF l1) aM),ah r2,.ab 0 (az (au r3)),J (sT (ba l4) bF),mD l5,J (sT (ba l6) bF)]else bO (G Np [J (sT (ba l4) bF),iI (gI l5 10),J (sT (aF l1) aM),ah r2,.ab 0 (az (au r3))]) λ_ o5=>bif !(gB o5 0)then aN [aq,J (sT (aF (gC o5 1)) aM),ah (gR o5 2),.ab 0 (az (au (gR o5 3))),J (sT (ba l4) bF),mD l5,J (sT (ba l6) bF)]else bO (G MK [J (sT (ba l4) bF),iI (gI l5 10),J (sT (aF (gC o5 1)) aM),ah (gR o5 2),.ab 0 (az (au (gR o5 3)))]) λ_ o6=>ae [bE i0,J (sT (aF (gC o6 1)) aM),ah (gR o6 2),.ab 0 (az (au (gR o6 3))),J (sT (ba l4) bF),mD l5,J (sT (ba (gC o6 0)) [(0,.ptr 0 0 0),(4,aa (gR o6 4))])]else bO (TZ G N [bE i0,J (sT (aF l1) aM),ah r2,.ab 0 (az (au r3))]) λ_ o7=>bif gB o7 0 then bif gI l5 10 != 0 then aN [aq,J (sT (aF (gC o7 1)) aM),ah (gR o7 2),.ab 0 (az (au (gR o7 3))),J (sT (ba l4) bF),mD l5,J (sT (ba l6) bF)]else bif ln (gR l5 11) != 1 then aN [aq,J (sT (aF (gC o7 1)) aM),ah (gR o7 2),.ab 0 (az (au (gR o7 3))),J (sT (ba l4) bF),mD l5,J (sT (ba l6) bF)]else aR (aU 0 (ln (gR l5 11)))<|bO (G wF [J (sT (ba l4) bF),bS (gA (gR l5 11) 0),J (sT (aF (gC o7 1)) aM),ah (gR o7 2),.ab 0 (az (au (gR o7 3)))]) λ_ o8=>bif !(gB o8 0)then aN [aq,J (sT (aF (gC o8 1)) aM),ah (gR o8 2),.ab 0 (az (au (gR o8 3))),J (sT (ba l4) bF),mD l5,J (sT (ba l6) bF)]else bO (G u6 [J (cP dG 12 l5)]) λ_ o9=>bif !(gB o9 0)then aN [aq,J (sT (aF (gC o8 1)) aM),ah (gR o8 2),.ab 0 (az (au (gR o8 3))),J (sT (ba l4) bF),mD l5,J (sT (ba l6) bF)]else ae [bE 2,J (sT (aF (gC o8 1)) aM),ah (gR o8 2),.ab 0 (az (au (gR o8 3))),J (sT (ba l4) bF),mD l5,J (sT (ba l6) bF)]else bif i0==4 then bif gI l5 10 != 0 then aN [aq,J (sT (aF (gC o7 1)) aM),ah (gR o7 2),.ab 0 (az (au (gR o7 3))),J (sT (ba l4) bF),mD l5,J (sT (ba l6) bF)]else bif aU 0 (ln (gR l5 11))then aN [aq,J (sT (aF (gC o7 1)) aM),ah (gR o7 2),.ab 0 (az (au (gR o7 3))),J (sT (ba l4) bF),mD l5,J (sT (ba l6) bF)]else bO (G u6 [J (cP dG 12 l5)]) λ_ cV=>bif !(gB cV 0)then aN [aq,J (sT (aF (gC o7 1)) aM),ah (gR o7 2),.ab 0 (az (au (gR o7 3))),J (sT (ba l4) bF),mD l5,J (sT (ba l6) bF)]else bO (G u6 [J (cP dG 33 l5)]) λ_ cX=>bif !(gB cX 0)then aN [aq,J (sT (aF (gC o7 1)) aM),ah (gR o7 2),.ab 0 (az (au (gR o7 3))),J (sT (ba l4) bF),mD l5,J (sT (ba l6) bF)]else ae [bE i0,J (sT (aF (gC o7 1)) aM),ah (gR o7 2),.ab 0 (az (au (gR o7 3))),J (sT (ba l4) bF),mD l5,J (sT (ba l6) bF)]else aN [aq,J (sT (aF (gC o7 1)) aM),ah (gR o7 2),.ab 0 (az (au (gR o7 3))),J (sT (ba l4) bF),mD l5,J (sT (ba l6) bF)]:aJ):=by kernel_rfl
def acM:xT G N (n+1) [c8 r0,iI i1,iI i2,J l3,ah r4,.ab 0 r5,J l6,.ab 0 r7]=(bif aU i2 i1 then bp i2 r0<|bO (G H8 [J (sT (ba l6) bF),J (cP B0 1 (aD r0 i2)),J (sT (aF l3) aM),ah r4,.ab 0 (az (au r5))]) λ_ o4=>bif !(gB o4 0)then ae [aq,J (sT (aF (gC o4 1)) aM),ah (gR o4 2),.ab 0 (az (au (gR o4 3))),J (sT (ba l6) bF),.ab 0 (az (au r7))]else bO (BB G N [bE (gI (aD r0 i2) 0),J (sT (aF (gC o4 1)) aM),ah (gR o4 2),.ab 0 (az (au (gR o4 3))),J (sT (ba l6) bF),mD (aD r0 i2),J (sT (ba l6) bF)]) λpN dj=>bif bQ pN then match aA.dR (au r7) (bE (gI dj 0))with|some DV=>(bO (G kq [J (sT (ba (gC dj 6)) bF),J (cP dG 12 (gC dj 5)),J (sT (aF (gC dj 1)) aM),ah (gR dj 2),.ab 0 (az (au (gR dj 3)))]) λ_ dc=>bif !(gB dc 0)then ae [aq,J (sT (aF (gC dc 1)) aM),ah (gR dc 2),.ab 0 (az (au (gR dc 3))),J (sT (ba (gC dj 4)) bF),.ab 0 (az (aA.iV (au r7) (bE (gI dj 0)) (iI (bw (DV.toI+1)))))]else bO (G kq [J (sT (ba (gC dj 4)) bF),J (cP dG 33 (gC dj 5)),J (sT (aF (gC dc 1)) aM),ah (gR dc 2),.ab 0 (az (au (gR dc 3)))]) λ_ dr=>bif !(gB dr 0)then ae [aq,J (sT (aF (gC dr 1)) aM),ah (gR dr 2),.ab 0 (az (au (gR dr 3))),J (sT (ba (gC dj 4)) bF),.ab 0 (az (aA.iV (au r7) (bE (gI dj 0)) (iI (bw (DV.toI+1)))))]else xT G N n [c8 r0,iI i1,cC i2,J (sT (aF (gC dr 1)) aM),ah (gR dr 2),.ab 0 (az (au (gR dr 3))),J (sT (ba (gC dj 4)) bF),.ab 0 (az (aA.iV (au r7) (bE (gI dj 0)) (iI (bw (DV.toI+1)))))])|none=>(bO (G kq [J (sT (ba (gC dj 6)) bF),J (cP dG 12 (gC dj 5)),J (sT (aF (gC dj 1)) aM),ah (gR dj 2),.ab 0 (az (au (gR dj 3)))]) λ_ fX=>bif !(gB fX 0)then ae [aq,J (sT (aF (gC fX 1)) aM),ah (gR fX 2),.ab 0 (az (au (gR fX 3))),J (sT (ba (gC dj 4)) bF),.ab 0 (az (aA.iV (au r7) (bE (gI dj 0)) (iI 1)))]else bO (G kq [J (sT (ba (gC dj 4)) bF),J (cP dG 33 (gC dj 5)),J (sT (aF (gC fX 1)) aM),ah (gR fX 2),.ab 0 (az (au (gR fX 3)))]) λ_ du=>bif !(gB du 0)then ae [aq,J (sT (aF (gC du 1)) aM),ah (gR du 2),.ab 0 (az (au (gR du 3))),J (sT (ba (gC dj 4)) bF),.ab 0 (az (aA.iV (au r7) (bE (gI dj 0)) (iI 1)))]else xT G N n [c8 r0,iI i1,cC i2,J (sT (aF (gC du 1)) aM),ah (gR du 2),.ab 0 (az (au (gR du 3))),J (sT (ba (gC dj 4)) bF),.ab 0 (az (aA.iV (au r7) (bE (gI dj 0)) (iI 1)))])else ae [ak (gB dj 0),J (sT (aF (gC dj 1)) aM),ah (gR dj 2),.ab 0 (az (au (gR dj 3))),J (sT (ba (gC dj 4)) bF),.ab 0 (az (au r7))]else aN [J (sT (aF l3) aM),ah r4,.ab 0 (az (au r5)),J (sT (ba l6) bF),.ab 0 (az (au r7))]:aJ):=by kernel_rfl
def arh:MJ G N [iI i0,J l1,ah r2,.ab 0 r3,.ab 0 r4]=(match aA.dR (au r4) (bE 2)with|some m20=>(bif aU 0 (m20.toI)then ae [cC i0,J (sT (aF l1) aM),ah r2,.ab 0 (az (au r3)),.ab 0 (az (au r4))]else ae [iI i0,J (sT (aF l1) aM),ah r2,.ab 0 (az (au r3)),.ab 0 (az (au r4))])|none=>(ae [iI i0,J (sT (aF l1) aM),ah r2,.ab 0 (az (au r3)),.ab 0 (az (au r4))]):aJ):=by kernel_rfl
def atA:bZ CX EE G N Ih [J l0,J l1,J l2,ah r3,.ab 0 r4]=(bO (Ux G N [J (sT (aF l2) aM),ah r3,.ab 0 (az (au r4)),av l1]) λq2 o2=>bif bQ q2 then aR (aU 0 (ln (gR (gC o2 3) 17)))<|bO (G kq [J (sT (ba l0) [(0,.ptr 0 0 0),(10,iI (-1))]),av (gA (gR (gC o2 3) 17) 0),J (sT (aF (gC o2 0)) aM),ah (gR o2 1),.ab 0 (az (au (gR o2 2)))]) λ_ o3=>bif !(gB o3 0)then ae [aq,J (sT (aF (gC o3 1)) aM),ah (gR o3 2),.ab 0 (az (au (gR o3 3)))]else bO (xT G N N [c8 (gR (gC o2 3) 20),iI (ln (gR (gC o2 3) 20)),iI 0,J (sT (aF (gC o3 1)) aM),ah (gR o3 2),.ab 0 (az (au (gR o3 3))),J (sT (ba l0) [(0,.ptr 0 0 0),(10,iI (-1))]),.ab 0 (az (([]:List (AV×AV))))]) λLx gG=>bif bQ Lx then ae [ak (gB gG 0),J (sT (aF (gC gG 1)) aM),ah (gR gG 2),.ab 0 (az (au (gR gG 3)))]else match aA.dR (au (gR gG 4)) (bE 4)with|some m19=>(bO (MJ G N [iI m19.toI,J (sT (aF (gC gG 0)) aM),ah (gR gG 1),.ab 0 (az (au (gR gG 2))),.ab 0 (az (au (gR gG 4)))]) λ_ iZ=>bif gB (gC o2 3) 9 then match aA.dR (au (gR iZ 4)) (bE 1)with|some LC=>(bif aU 0 (LC.toI)then ae [ak (cg (bw (gI iZ 0+1)) 1),J (sT (aF (gC iZ 1)) aM),ah (gR iZ 2),.ab 0 (az (au (gR iZ 3)))]else ae [aq,J (sT (aF (gC iZ 1)) aM),ah (gR iZ 2),.ab 0 (az (au (gR iZ 3)))])|none=>(ae [aq,J (sT (aF (gC iZ 1)) aM),ah (gR iZ 2),.ab 0 (az (au (gR iZ 3)))])else match aA.dR (au (gR iZ 4)) (bE 1)with|some LB=>(bif aU 0 (LB.toI)then ae [ak (cg (gI iZ 0) 1),J (sT (aF (gC iZ 1)) aM),ah (gR iZ 2),.ab 0 (az (au (gR iZ 3)))]else ae [aq,J (sT (aF (gC iZ 1)) aM),ah (gR iZ 2),.ab 0 (az (au (gR iZ 3)))])|none=>(ae [aq,J (sT (aF (gC iZ 1)) aM),ah (gR iZ 2),.ab 0 (az (au (gR iZ 3)))]))|none=>(bO (MJ G N [iI 0,J (sT (aF (gC gG 0)) aM),ah (gR gG 1),.ab 0 (az (au (gR gG 2))),.ab 0 (az (au (gR gG 4)))]) λ_ jA=>bif gB (gC o2 3) 9 then match aA.dR (au (gR jA 4)) (bE 1)with|some m25=>(bif aU 0 (m25.toI)then ae [ak (cg (bw (gI jA 0+1)) 1),J (sT (aF (gC jA 1)) aM),ah (gR jA 2),.ab 0 (az (au (gR jA 3)))]else ae [aq,J (sT (aF (gC jA 1)) aM),ah (gR jA 2),.ab 0 (az (au (gR jA 3)))])|none=>(ae [aq,J (sT (aF (gC jA 1)) aM),ah (gR jA 2),.ab 0 (az (au (gR jA 3)))])else match aA.dR (au (gR jA 4)) (bE 1)with|some m26=>(bif aU 0 (m26.toI)then ae [ak (cg (gI jA 0) 1),J (sT (aF (gC jA 1)) aM),ah (gR jA 2),.ab 0 (az (au (gR jA 3)))]else ae [aq,J (sT (aF (gC jA 1)) aM),ah (gR jA 2),.ab 0 (az (au (gR jA 3)))])|none=>(ae [aq,J (sT (aF (gC jA 1)) aM),ah (gR jA 2),.ab 0 (az (au (gR jA 3)))]))else ae [ak (gB o2 0),J (sT (aF (gC o2 1)) aM),ah (gR o2 2),.ab 0 (az (au (gR o2 3)))]:aJ):=by kernel_rfl
def aui:bZ CX EE G N M9 [aa r0]=(bif r0.isEmpty then none else aR (xy r0)<|ae [aa ((([]:aW))++r0)]:aJ):=by kernel_rfl
def ash:bZ CX EE G N Ez []=(ae [aa cy]:aJ):=by kernel_rfl
def asg:bZ CX EE G N Ey []=(ae [aa cy]:aJ):=by kernel_rfl
def aAZ:bZ CX EE G N B8 [aa r0,iI i1]=(bO (AM uj (G Ez) (G Ey) (G M9) [aa r0]) λ_ o1=>aR (lV (((gR o1 0).length +1)*8) 140737488355328)<|ae [aa ((gR o1 0)++(([[iI i1]]:aW)))]:aJ):=by kernel_rfl
def arI:bZ CX EE G N MK [J l0,iI i1,J l2,ah r3,.ab 0 r4]=(bO (G EG [J (sT (ba l0) bF),J (sT (aF l2) aM),ah r3,.ab 0 (az (au r4))]) λ_ o1=>bO (G B8 [aa (gR (gC o1 0) 4),iI i1]) λ_ o2=>ae [J (sT (aAr (gC o1 0)) [(0,.ptr 0 0 0),(4,.aC 3),(10,iI i1)]),J (sT (aF (gC o1 1)) aM),ah (gR o1 2),.ab 0 (az (au (gR o1 3))),aa (gR o2 0)]:aJ):=by kernel_rfl
def atC:bZ CX EE G N M5 [J l0,iI i1,J l2,ah r3,.ab 0 r4]=(bO (G EG [J (sT (ba l0) bF),J (sT (aF l2) aM),ah r3,.ab 0 (az (au r4))]) λ_ o1=>bO (G B8 [aa (gR (gC o1 0) 5),iI i1]) λ_ o2=>ae [J (sT (aAs (gC o1 0)) aGC),J (sT (aF (gC o1 1)) aM),ah (gR o1 2),.ab 0 (az (au (gR o1 3))),aa (gR o2 0)]:aJ):=by kernel_rfl
def aty:bZ CX EE G N US [J l0,J l1,J l2,ah r3,.ab 0 r4]=(bO (G kq [J (sT (ba l1) bF),av l0,J (sT (aF l2) aM),ah r3,.ab 0 (az (au r4))]) λ_ o1=>ae [ak (!(gB o1 0)),J (sT (ba l1) gz),J (sT (aF (gC o1 1)) gw),ah (gR o1 2),.ab 0 (az (au (gR o1 3)))]:aJ):=by kernel_rfl
def TF:Mr G N (n+1) [bC r0,iI i1,iI i2,J l3,J l4,ah r5,.ab 0 r6]=(bif aU i2 i1 then bp i2 r0<|bO (G US [av (aD r0 i2),J (sT (ba l3) gz),J (sT (aF l4) gw),ah r5,.ab 0 (az (au r6))]) λ_ o1=>bif gB o1 0 then ae [iI i2,J (sT (ba (gC o1 1)) gz),J (sT (aF (gC o1 2)) gw),ah (gR o1 3),.ab 0 (az (au (gR o1 4)))]else Mr G N n [bC r0,iI i1,cC i2,J (sT (ba (gC o1 1)) gz),J (sT (aF (gC o1 2)) gw),ah (gR o1 3),.ab 0 (az (au (gR o1 4)))]else aN [J (sT (ba l3) gz),J (sT (aF l4) gw),ah r5,.ab 0 (az (au r6))]:aJ):=by kernel_rfl
def ace:bZ CX EE G N Mv [bC r0,J l1,J l2,ah r3,.ab 0 r4]=(bO (Mr G N N [bC r0,iI (ln r0),iI 0,J (sT (ba l1) gz),J (sT (aF l2) gw),ah r3,.ab 0 (az (au r4))]) λq2 o2=>bif bQ q2 then ae [iI (gI o2 0),J (sT (ba (gC o2 1)) gz),J (sT (aF (gC o2 2)) gw),ah (gR o2 3),.ab 0 (az (au (gR o2 4)))]else ae [iI (-1),J (sT (ba (gC o2 0)) gz),J (sT (aF (gC o2 1)) gw),ah (gR o2 2),.ab 0 (az (au (gR o2 3)))]:aJ):=by kernel_rfl
def ab8:bZ CX EE G N TG [bC r0,J l1,J l2,ah r3,.ab 0 r4]=(bO (G Mv [bC r0,J (sT (ba l1) gz),J (sT (aF l2) gw),ah r3,.ab 0 (az (au r4))]) λ_ o1=>ae [ak (cg 0 (gI o1 0)),J (sT (ba (gC o1 1)) gz),J (sT (aF (gC o1 2)) gw),ah (gR o1 3),.ab 0 (az (au (gR o1 4)))]:aJ):=by kernel_rfl
def asF:Ie G N [J l0,ah r1,.ab 0 r2,J l3,J l4]=(bif aU (gI l0 7) 0 then aN [aq,J (sT (aF l0) aM),ah r1,.ab 0 (az (au r2)),J (sT (ba l3) bF),av l4]else bif cg 64 (gI l3 11)then aN [aq,J (sT (aF l0) aM),ah r1,.ab 0 (az (au r2)),J (sT (ba l3) bF),av l4]else bO (G Ox [av l4]) λ_ o1=>bif !(gB o1 0)then aN [aq,J (sT (aF l0) aM),ah r1,.ab 0 (az (au r2)),J (sT (ba l3) bF),av l4]else bO (G UT [J (sT (ba l3) bF),av l4,J (sT (aF l0) aM),ah r1,.ab 0 (az (au r2))]) λ_ o2=>bif !(gB o2 0)then aN [aq,J (sT (aF (gC o2 1)) aM),ah (gR o2 2),.ab 0 (az (au (gR o2 3))),J (sT (ba l3) bF),av l4]else bO (G Im [J (sT (ba l3) bF),av l4,J (sT (aF (gC o2 1)) aM),ah (gR o2 2),.ab 0 (az (au (gR o2 3)))]) λ_ o3=>bif !(gB o3 0)then aN [aq,J (sT (aF (gC o3 1)) aM),ah (gR o3 2),.ab 0 (az (au (gR o3 3))),J (sT (ba l3) bF),av l4]else ae [J (sT (aF (gC o3 1)) aM),ah (gR o3 2),.ab 0 (az (au (gR o3 3))),J (sT (ba l3) bF),av l4]:aJ):=by kernel_rfl
end
noncomputable section
variable {G:Nat->bl->Option UO} {N n:Nat} {i0 i1 i2:Int} {l0 l1 l2 l3 l4 l5:bl} {r0 r1 r2 r3 r4 r5 r6:aW}
def MM:wE G N [J l0,ah r1,.ab 0 r2,J l3,J l4]=(bif gI l4 0==9 then bO (G Io [J (sT (ba l3) bF),av l4,J (sT (aF l0) aM),ah r1,.ab 0 (az (au r2))]) λ_ o5=>aN [ak (gB o5 0),J (sT (aF (gC o5 1)) aM),ah (gR o5 2),.ab 0 (az (au (gR o5 3))),J (sT (ba l3) bF),av l4]else bif gI l4 0==19 then bO (G Ih [J (sT (ba l3) bF),av l4,J (sT (aF l0) aM),ah r1,.ab 0 (az (au r2))]) λ_ o6=>aN [ak (gB o6 0),J (sT (aF (gC o6 1)) aM),ah (gR o6 2),.ab 0 (az (au (gR o6 3))),J (sT (ba l3) bF),av l4]else bif gI l4 0==18 then bO (G MK [J (sT (ba l3) bF),iI (gI l4 5),J (sT (aF l0) aM),ah r1,.ab 0 (az (au r2))]) λ_ o7=>aR (aU 0 (ln (gR l4 17)))<|bO (G kq [J (sT (ba (gC o7 0)) [(0,.ptr 0 0 0),(4,aa (gR o7 4))]),av (gA (gR l4 17) 0),J (sT (aF (gC o7 1)) aM),ah (gR o7 2),.ab 0 (az (au (gR o7 3)))]) λ_ o8=>bif gB o8 0 then aR (aU 1 (ln (gR l4 17)))<|bO (G kq [J (sT (ba l3) [(0,.ptr 0 0 0),(10,iI (-1))]),av (gA (gR l4 17) 1),J (sT (aF (gC o8 1)) aM),ah (gR o8 2),.ab 0 (az (au (gR o8 3)))]) λ_ o9=>aN [ak (gB o9 0),J (sT (aF (gC o9 1)) aM),ah (gR o9 2),.ab 0 (az (au (gR o9 3))),J (sT (ba l3) bF),av l4]else aN [aq,J (sT (aF (gC o8 1)) aM),ah (gR o8 2),.ab 0 (az (au (gR o8 3))),J (sT (ba l3) bF),av l4]else bif gI l4 0==20 then bO (G M5 [J (sT (ba l3) bF),iI (gI l4 4),J (sT (aF l0) aM),ah r1,.ab 0 (az (au r2))]) λ_ cV=>aR (aU 0 (ln (gR l4 17)))<|bO (G kq [J (sT (ba (gC cV 0)) [(0,.ptr 0 0 0),(5,aa (gR cV 4))]),av (gA (gR l4 17) 0),J (sT (aF (gC cV 1)) aM),ah (gR cV 2),.ab 0 (az (au (gR cV 3)))]) λ_ cX=>aN [ak (gB cX 0),J (sT (aF (gC cX 1)) aM),ah (gR cX 2),.ab 0 (az (au (gR cX 3))),J (sT (ba l3) bF),av l4]else bif gI l4 0==17 then bO (G M5 [J (sT (ba l3) bF),iI (gI l4 4),J (sT (aF l0) aM),ah r1,.ab 0 (az (au r2))]) λ_ dj=>aR (aU 0 (ln (gR l4 17)))<|bO (G kq [J (sT (ba (gC dj 0)) [(0,.ptr 0 0 0),(5,aa (gR dj 4))]),av (gA (gR l4 17) 0),J (sT (aF (gC dj 1)) aM),ah (gR dj 2),.ab 0 (az (au (gR dj 3)))]) λ_ fe=>bif gB fe 0 then aR (aU 1 (ln (gR l4 17)))<|bO (G kq [J (sT (ba l3) [(0,.ptr 0 0 0),(10,iI (-1))]),av (gA (gR l4 17) 1),J (sT (aF (gC fe 1)) aM),ah (gR fe 2),.ab 0 (az (au (gR fe 3)))]) λ_ dc=>bif gB dc 0 then aR (aU 2 (ln (gR l4 17)))<|bO (G kq [J (sT (ba l3) [(0,.ptr 0 0 0),(10,iI (-1))]),av (gA (gR l4 17) 2),J (sT (aF (gC dc 1)) aM),ah (gR dc 2),.ab 0 (az (au (gR dc 3)))]) λ_ dr=>aN [ak (gB dr 0),J (sT (aF (gC dr 1)) aM),ah (gR dr 2),.ab 0 (az (au (gR dr 3))),J (sT (ba l3) bF),av l4]else aN [aq,J (sT (aF (gC dc 1)) aM),ah (gR dc 2),.ab 0 (az (au (gR dc 3))),J (sT (ba l3) bF),av l4]else aN [aq,J (sT (aF (gC fe 1)) aM),ah (gR fe 2),.ab 0 (az (au (gR fe 3))),J (sT (ba l3) bF),av l4]else bif gI l4 0==16 then ae [J (sT (aF l0) aM),ah r1,.ab 0 (az (au r2)),J (sT (ba l3) [(0,.ptr 0 0 0),(10,iI (-1))]),av l4]else bif gI l4 0==7 then bO (G B8 [aa (gR l3 2),iI (gI l4 1)]) λ_ fX=>bO (G B8 [aa (gR l3 3),iI (gI l4 1)]) λ_ du=>ae [J (sT (aF l0) aM),ah r1,.ab 0 (az (au r2)),J (sT (ba l3) [(0,.ptr 0 0 0),(2,aa (gR fX 0)),(3,aa (gR du 0))]),av l4]else bif gI l4 0==6 then bO (G B8 [aa (gR l3 6),iI (gI l4 2)]) λ_ gG=>ae [J (sT (aF l0) aM),ah r1,.ab 0 (az (au r2)),J (sT (ba l3) [(0,.ptr 0 0 0),(6,aa (gR gG 0))]),av l4]else ae [J (sT (aF l0) aM),ah r1,.ab 0 (az (au r2)),J (sT (ba l3) bF),av l4]:aJ):=by kernel_rfl
def avl:bZ CX EE G N kq [J l0,J l1,J l2,ah r3,.ab 0 r4]=(bO (Ie G N [J (sT (aF l2) [(6,.aC 1),(7,iI (bw (gI l2 7- 1))),(8,.mp 2)]),ah r3,.ab 0 (az (au r4)),J (sT (ba l0) bF),av l1]) λq4 o4=>bif bQ q4 then bO (wE G N [J (sT (aF (gC o4 0)) aM),ah (gR o4 1),.ab 0 (az (au (gR o4 2))),J (sT (ba (gC o4 3)) [(0,.ptr 0 0 0),(11,iI (bw (gI (gC o4 3) 11+1)))]),av (gC o4 4)]) λDP iH=>bif bQ DP then bO (G TG [bC (gR (gC iH 4) 17),J (sT (ba (gC iH 3)) gz),J (sT (aF (gC iH 0)) gw),ah (gR iH 1),.ab 0 (az (au (gR iH 2)))]) λ_ sj=>ae [ak (!(gB sj 0)),J (sT (aF (gC sj 2)) aM),ah (gR sj 3),.ab 0 (az (au (gR sj 4)))]else ae [ak (gB iH 0),J (sT (aF (gC iH 1)) aM),ah (gR iH 2),.ab 0 (az (au (gR iH 3)))]else ae [ak (gB o4 0),J (sT (aF (gC o4 1)) aM),ah (gR o4 2),.ab 0 (az (au (gR o4 3)))]:aJ):=by kernel_rfl
def az2:Xn G N [J l0]=(bO (G Wz [bJ (gR l0 0)]) λ_ o1=>bif !(gB o1 0)then aN [aq,bL l0]else bif aU (gI l0 1) 4 then aN [aq,bL l0]else bif aU 64 (gI l0 1)then aN [aq,bL l0]else bif aU (ln (gR l0 2)) 1 then aN [aq,bL l0]else bif aU 32 (ln (gR l0 2))then aN [aq,bL l0]else bif aU 32 (ln (gR l0 3))then aN [aq,bL l0]else aR (aU 0 (ln (gR l0 2)))<|bif aU 0 (ln (gR (gA (gR l0 2) 0) 1))then aN [aq,bL l0]else ae [bL l0]:aJ):=by kernel_rfl
def afa:IY G N (n+1) [fZ r0,iI i1,iI i2]=(bif aU i2 i1 then bp i2 r0<|bif aU (gI (aD r0 i2) 0) 0 then bY else bif aU 31 (gI (aD r0 i2) 0)then bY else bif aU 8 (ln (gR (aD r0 i2) 1))then bY else bif aU (gI (aD r0 i2) 23) 0 then bY else bif aU 2147483647 (gI (aD r0 i2) 23)then bY else IY G N n [fZ r0,iI i1,cC i2]else aN []:aJ):=by kernel_rfl
def afd:Oj G N [J l0]=(bO (IY G N N [fZ (gR l0 2),iI (ln (gR l0 2)),iI 0]) λq3 o3=>bif bQ q3 then aN [ak (gB o3 0),bL l0]else ae [bL l0]:aJ):=by kernel_rfl
def avi:VL G N [J l0]=(bif aU (gI l0 0) 0 then aN [aq,mC l0]else bif aU 31 (gI l0 0)then aN [aq,mC l0]else bif aU 8 (ln (gR l0 2))then aN [aq,mC l0]else ae [mC l0]:aJ):=by kernel_rfl
def adK:BM G N (n+1) [aT r0,iI i1,iI i2,J l3,J l4]=(bif aU i2 i1 then bp i2 r0<|bO (G Nz [J [bJ (gR l3 0),iI (ln (gR l4 2))],bS (aD r0 i2)]) λ_ o7=>bif !(gB o7 1)then ae [aq,bL l3,mC l4]else bO (G rJ [cO (gC o7 0)]) λ_ o8=>bif !(gB o8 0)then ae [aq,bL l3,mC l4]else bO (G Ja [bJ (gR l3 0),aa (gR l4 1),bS (aD r0 i2)]) λ_ o9=>bif !(gB o9 0)then ae [aq,bL l3,mC l4]else BM G N n [aT r0,iI i1,cC i2,bL l3,mC l4]else aN [bL l3,mC l4]:aJ):=by kernel_rfl
def aeo:E4 G N (n+1) [od r0,iI i1,iI i2,J l3]=(bif aU i2 i1 then bp i2 r0<|bO (VL G N [mC (aD r0 i2)]) λq6 o6=>bif bQ q6 then bO (BM G N N [aT (gR (gC o6 0) 2),iI (ln (gR (gC o6 0) 2)),iI 0,bL l3,mC (gC o6 0)]) λmO cV=>bif bQ mO then ae [ak (gB cV 0),bL (gC cV 1)]else E4 G N n [od r0,iI i1,cC i2,bL (gC cV 0)]else ae [ak (gB o6 0),bL l3]else aN [bL l3]:aJ):=by kernel_rfl
def aeP:N7 G N [J l0]=(bO (E4 G N N [od (gR l0 3),iI (ln (gR l0 3)),iI 0,bL l0]) λre cX=>bif bQ re then aN [ak (gB cX 0),bL (gC cX 1)]else ae [bL (gC cX 0)]:aJ):=by kernel_rfl
def aen:E3 G N (n+1) [fZ r0,iI i1,iI i2,J l3,.ab 0 r4,ah r5]=(bif aU i2 i1 then bp i2 r0<|bO (G kq [J [.ptr 0 0 0,iI i2,aa cy,aa cy,aa cy,aa cy,aa cy,aq,aq,aq,iI (-1),iI 0],J (cP dG 2 (aD r0 i2)),J (sT (aF l3) aM),ah r5,.ab 0 (az (au r4))]) λ_ fe=>bif !(gB fe 0)then ae [aq,J (sT (aF (gC fe 1)) yF),.ab 0 (az (au (gR fe 3))),ah (gR fe 2)]else E3 G N n [fZ r0,iI i1,cC i2,J (sT (aF (gC fe 1)) yF),.ab 0 (az (au (gR fe 3))),ah (gR fe 2)]else aN [J (sT (aF l3) yF),.ab 0 (az (au r4)),ah r5]:aJ):=by kernel_rfl
def VR:E2 G N (n+1) [iI i0,iI i1,J l2,.ab 0 r3,ah r4]=(bif aU i1 i0 then bif aU 0 i1 then match aA.dR (au r3) (iI i1)with|some m15=>(bif m15.toI != 1 then ae [aq,J (sT (aF l2) yF),.ab 0 (az (au r3)),ah r4]else E2 G N n [iI i0,cC i1,J (sT (aF l2) yF),.ab 0 (az (au r3)),ah r4])|none=>(ae [aq,J (sT (aF l2) yF),.ab 0 (az (au r3)),ah r4])else E2 G N n [iI i0,cC i1,J (sT (aF l2) yF),.ab 0 (az (au r3)),ah r4]else aN [J (sT (aF l2) yF),.ab 0 (az (au r3)),ah r4]:aJ):=by kernel_rfl
def Ji:bZ CX EE G N zW [J l0]=(bO (Xn G N [bL l0]) λq2 o2=>bif bQ q2 then bO (Oj G N [bL (gC o2 0)]) λq4 o4=>bif bQ q4 then bO (G Oy [bL (gC o4 0)]) λ_ o5=>bif !(gB o5 0)then bY else bO (N7 G N [bL (gC o4 0)]) λpN dj=>bif bQ pN then bO (E3 G N N [fZ (gR (gC dj 0) 2),iI (ln (gR (gC dj 0) 2)),iI 0,J [bJ (gR (gC o4 0) 0),iI (-1),bJ (gR (gC o4 0) 0),iI (gI (gC o4 0) 1),fZ (gR (gC o4 0) 2),od (gR (gC o4 0) 3),.aC 2,iI 8192,.mp 1],.ab 0 (az (([]:List (AV×AV)))),ah (gR o5 1)]) λvU dc=>bif bQ vU then ae [ak (gB dc 0)]else bO (E2 G N N [iI (ln (gR (gC dj 0) 2)),iI 0,J (sT (aF (gC dc 0)) yF),.ab 0 (az (au (gR dc 1))),ah (gR dc 2)]) λze fX=>bif bQ ze then ae [ak (gB fX 0)]else c9 else ae [ak (gB dj 0)]else ae [ak (gB o4 0)]else ae [ak (gB o2 0)]:aJ):=by kernel_rfl
def azs:bZ CX EE G N WY [J l0]=(ae [av l0]:aJ):=by kernel_rfl
def ac4:MT G N (n+1) [dh r0,iI i1,iI i2,J l3,J l4,J l5,bC r6]=(bif aU i2 i1 then bp i2 r0<|bO (G ya [av (aD r0 i2),J [.aC 2],J [.dC 35 [] [.ptr 0 0 0,.ptr 1 0 0]],bC r6]) λ_ o2=>bO (G ya [J (cP dG 21 (aD r0 i2)),J [.aC 2],J [.dC 35 [] [.ptr 0 0 0,.ptr 1 0 0]],bC (gR o2 2)]) λ_ o3=>MT G N n [dh r0,iI i1,cC i2,J [.aC 4],J [.dC 35 [] [.ptr 0 0 0,.ptr 1 0 0]],J [.ptr 1 0 0],bC (gR o3 2)]else ae [J [.aC 4],J [.dC 35 [] [.ptr 0 0 0,.ptr 1 0 0]],J [.ptr 1 0 0],bC r6]:aJ):=by kernel_rfl
def asP:M3 G N [J l0,J l1,J l2,J l3,bC r4]=(bO (MT G N N [dh (gR l3 18),iI (ln (gR l3 18)),iI 0,J [.aC 4],J [.dC 35 [] [.ptr 0 0 0,.ptr 1 0 0]],J [.ptr 1 0 0],bC r4]) λ_ o4=>ae [J [.aC 5],J [.dC 35 [] [.ptr 0 0 0,.ptr 1 0 0]],J [.ptr 1 0 0],av l3,bC (gR o4 3)]:aJ):=by kernel_rfl
def ac3:MS G N (n+1) [bC r0,iI i1,iI i2,J l3,J l4,J l5,bC r6]=(bif aU i2 i1 then bp i2 r0<|bO (G ya [av (aD r0 i2),J [.aC 2],J [.dC 35 [] [.ptr 0 0 0,.ptr 1 0 0]],bC r6]) λ_ o6=>MS G N n [bC r0,iI i1,cC i2,J [.aC 4],J [.dC 35 [] [.ptr 0 0 0,.ptr 1 0 0]],J [.ptr 1 0 0],bC (gR o6 2)]else ae [J [.aC 4],J [.dC 35 [] [.ptr 0 0 0,.ptr 1 0 0]],J [.ptr 1 0 0],bC r6]:aJ):=by kernel_rfl
def asO:MZ G N [J l0,J l1,J l2,J l3,bC r4]=(bO (MS G N N [bC (gR l3 17),iI (ln (gR l3 17)),iI 0,J [.aC 4],J [.dC 35 [] [.ptr 0 0 0,.ptr 1 0 0]],J [.ptr 1 0 0],bC r4]) λ_ o7=>ae [J [.aC 5],J [.dC 35 [] [.ptr 0 0 0,.ptr 1 0 0]],J [.ptr 1 0 0],av l3,bC (gR o7 3)]:aJ):=by kernel_rfl
def ac2:Ib G N (n+1) [dg r0,iI i1,iI i2,J l3,J l4,J l5,bC r6]=(bif aU i2 i1 then bp i2 r0<|bO (G ya [J (cP dG 1 (aD r0 i2)),J [.aC 2],J [.dC 35 [] [.ptr 0 0 0,.ptr 1 0 0]],bC r6]) λ_ o9=>Ib G N n [dg r0,iI i1,cC i2,J [.aC 4],J [.dC 35 [] [.ptr 0 0 0,.ptr 1 0 0]],J [.ptr 1 0 0],bC (gR o9 2)]else ae [J [.aC 4],J [.dC 35 [] [.ptr 0 0 0,.ptr 1 0 0]],J [.ptr 1 0 0],bC r6]:aJ):=by kernel_rfl
def ac1:Ia G N (n+1) [c8 r0,iI i1,iI i2,J l3,J l4,J l5,bC r6]=(bif aU i2 i1 then bp i2 r0<|bO (G ya [J (cP dG 12 (aD r0 i2)),J [.aC 2],J [.dC 35 [] [.ptr 0 0 0,.ptr 1 0 0]],bC r6]) λ_ cX=>bO (G ya [J (cP dG 33 (aD r0 i2)),J [.aC 2],J [.dC 35 [] [.ptr 0 0 0,.ptr 1 0 0]],bC (gR cX 2)]) λ_ dj=>Ia G N n [c8 r0,iI i1,cC i2,J [.aC 4],J [.dC 35 [] [.ptr 0 0 0,.ptr 1 0 0]],J [.ptr 1 0 0],bC (gR dj 2)]else ae [J [.aC 4],J [.dC 35 [] [.ptr 0 0 0,.ptr 1 0 0]],J [.ptr 1 0 0],bC r6]:aJ):=by kernel_rfl
def aAj:bZ CX EE G N ya [J l0,J l1,J l2,bC r3]=(aR (lV ((r3.length+1)*272) 140737488355328)<|bp (ln r3) (r3++(([Lm]:aW)))<|aR (dH ((ln r3).toNat) ((r3++(([Lm]:aW))).length))<|bO (G WY [av l0]) λ_ o1=>bO (M3 G N [J [.aC 5],J [.dC 35 [] [.ptr 0 0 0,.ptr 1 0 0]],J [.ptr 1 0 0],av (gC o1 0),bC ((r3++(([Lm]:aW))).set ((ln r3).toNat) (setAt (aD (r3++(([Lm]:aW))) (ln r3)) 0 (dJ l0)))]) λ_ o5=>bO (MZ G N [J [.aC 5],J [.dC 35 [] [.ptr 0 0 0,.ptr 1 0 0]],J [.ptr 1 0 0],av (gC o5 3),bC (gR o5 4)]) λ_ o8=>bO (Ib G N N [dg (gR (gC o8 3) 19),iI (ln (gR (gC o8 3) 19)),iI 0,J [.aC 4],J [.dC 35 [] [.ptr 0 0 0,.ptr 1 0 0]],J [.ptr 1 0 0],bC (gR o8 4)]) λ_ cV=>bO (Ia G N N [c8 (gR (gC o8 3) 20),iI (ln (gR (gC o8 3) 20)),iI 0,J [.aC 4],J [.dC 35 [] [.ptr 0 0 0,.ptr 1 0 0]],J [.ptr 1 0 0],bC (gR cV 3)]) λ_ fe=>ae [J [.aC 3],J [.dC 35 [] [.ptr 0 0 0,.ptr 1 0 0]],bC (gR fe 3)]:aJ):=by kernel_rfl
def aeI:N0 G N (n+1) [fZ r0,iI i1,iI i2,J l3,J l4,bC r5]=(bif aU i2 i1 then bp i2 r0<|bO (G ya [J (cP dG 2 (aD r0 i2)),J [.aC 2],J [.dC 35 [] [.ptr 0 0 0,.ptr 1 0 0]],bC r5]) λ_ o2=>N0 G N n [fZ r0,iI i1,cC i2,J [.dC 35 [] [.ptr 1 0 0,.ptr 0 0 0]],J [.aC 2],bC (gR o2 2)]else ae [J [.dC 35 [] [.ptr 1 0 0,.ptr 0 0 0]],J [.aC 2],bC r5]:aJ):=by kernel_rfl
def aBx:bZ CX EE G N XR [J l0]=(bO (G zW [bL l0]) λ_ o1=>bif !(gB o1 0)then ae [bC cy]else bO (N0 G N N [fZ (gR l0 2),iI (ln (gR l0 2)),iI 0,J [.dC 35 [] [.ptr 1 0 0,.ptr 0 0 0]],J [.aC 2],bC cy]) λ_ o3=>ae [bC (gR o3 2)]:aJ):=by kernel_rfl
def ad2:ET G N (n+1) [iI i0,bC r1]=(bif aU i0 (ln r1)then bp i0 r1<|aR (dH (i0.toNat) (r1.length))<|bO (G I8 [av (aD r1 i0)]) λ_ o2=>bif gB o2 0 then ae [cw,bC r1]else ET G N n [cC i0,bC r1]else aN [bC r1]:aJ):=by kernel_rfl
def W1:bZ CX EE G N I8 [J l0]=(bif gI l0 0==9 then bif aU 0 (ln (gR l0 16))then c9 else bO (G zT [av l0]) λ_ o1=>bO (ET G N N [iI 0,bC (gR o1 0)]) λq3 o3=>bif bQ q3 then ae [ak (gB o3 0)]else bY else bO (G zT [av l0]) λ_ o4=>bO (ET G N N [iI 0,bC (gR o4 0)]) λq5 o5=>bif bQ q5 then ae [ak (gB o5 0)]else bY:aJ):=by kernel_rfl
def ave:VH G N [iI i0,J l1]=(bO (G Xw [bL l1]) λ_ o1=>bif gB o1 0 then aN [cw,bL l1]else bO (G yi [bL l1]) λ_ o2=>bif !(gB o2 0)then aN [cw,bL l1]else bif aU i0 0 then aN [cw,bL l1]else ae [bL l1]:aJ):=by kernel_rfl
end
noncomputable section
variable {G:Nat->bl->Option UO} {N n:Nat} {i1:Int} {l0:bl}
def axD:bZ CX EE G N EY [J l0,iI i1]=(bO (VH G N [iI i1,bL l0]) λq3 o3=>bif bQ q3 then bO (G XR [bL (gC o3 0)]) λ_ o4=>bif cg (ln (gR o4 0)) i1 then bO (G Yq [bL (gC o3 0)]) λ_ o5=>bif ln (gR o4 0)==ln (gR o5 0)then c9 else bY else bp i1 (gR o4 0)<|aR (dH (i1.toNat) ((gR o4 0).length))<|bO (G I8 [av (aD (gR o4 0) i1)]) λ_ o6=>bif gB o6 0 then c9 else bO (G Ww [bL (gC o3 0),iI i1,J se]) λ_ o7=>bO (G zW [J (sT (aew (gC o7 0)) [(2,fZ (gR o7 1))])]) λ_ o8=>bif gB o8 0 then c9 else bY else ae [ak (gB o3 0)]:aJ):=by kernel_rfl
end
end Go.Proofs.YtomkobcipaligaaGreatDoor
namespace Go.aA
def ZR{p:Prop}(h:p:=by
 rw [fK hi,ix hi hl];exact aw (λhc=>af (h1 hc)) h2):p:=h
def QT{p:Prop}(h:p:=by simp only [sZ,hc,hd,he,hf,cf,cE]):p:=h
def ajC{p:Prop}(h:p:=by
 unfold lr;cases(List.range l.length).any (sZ l lo hi)<;>exact aL):p:=h
def ajq{p:Prop}(h:p:=by rw [zi]at he;simp only [sZ,hc,hd,he,cE]):p:=h
def aiV{p:Prop}(h:p:=by simp only [sZ,hc,hd,cf,cE]):p:=h
def aiQ{p:Prop}(h:p:=by simp only [oV,hc,hd,cf,cE]):p:=h
end Go.aA
namespace Go.aA
def cE:=@cond_false
def Cp:=@List.take_succ
def Yh:=@List.any_append
def Yg:=@Bool.or_false
end Go.aA
namespace Go.Proofs.YtomkobcipaligaaGreatDoor
open Go Go.aA
section
variable{i:Nat}{a b l:cW}
def dN(l:cW)(n:Int):Bool:=l.any (·==n)
def uL(n:Int)(hl:l.length<=mx):Ev rQ [aa (ints l),iI n] (0,[ak (dN l n)]):=by
 have h:=pq (l:=l) (p:=(·==n)) (hit:=(0,[cw])) (done:=(1,[])) (LF:=λi N m=>OU (FU CX EE N) N m [aa (ints l),iI n,iI (i:Int)])
  (bD afP (ax dY aL))
  λi hi r h1 h2=>bD afP<|br (dx hi)<|aH (cN hi)<|ZR
 refine bx aDa (aj h.diag ?_);unfold dN;cases l.any (·==n)<;>exact aL
def aDl(l:cW)(n:Int):l.any (n== ·)=dN l n:=by
 unfold dN;congr 1;funext x;exact BEq.comm
def u9(n:Int)(hl:l.length<=mx):Ev sD [aa (ints l),iI n] (0,[ak (dN l n)]):=by
 have h:=scan (l:=l) (p:=(n== ·)) (hit:=λi=>(0,[iI (i:Int)])) (done:=(1,[])) (LF:=λi N m=>MN (FU CX EE N) N m [aa (ints l),iI n,iI (ln (ints l)),iI (i:Int)])
  (bD acW (ax dY aL))
  λi hi r h1 h2=>bD acW<|br (dx hi)<|aH (cN hi)<|ZR
 rw [aDl]at h;rcases h with⟨h1,h2⟩|⟨h1,i,hi,h2⟩
 ·refine bx ac5 (aj (o:=(0,[iI (-1)])) (bx adA (aj h2.diag aL)) (af ?_));rw [h1];rfl
 ·refine bx ac5 (aj (o:=(0,[iI (i:Int)])) (bx adA (aj h2.diag aL)) (af ?_));rw [h1];simp [gI,AV.toI]
def xk(a b:cW):Bool:= !(a.any λx=> !dN b x)
def amR(ha:a.length<=mx)(hb:b.length<=mx):Ev IT [aa (ints a),aa (ints b)] (0,[ak (xk a b)]):=by
 have h1:∀x,Ev Wa [iI x,J [aa (ints b)]] (0,[ak (!dN b x),J [aa (ints b)]]):=λx=>
  bx axE (aj (u9 x hb) aL)
 have h:=scan (l:=a) (p:=λx=> !dN b x) (hit:=λi=>(0,[iI (i:Int),J [aa (ints b)]])) (done:=(1,[J [aa (ints b)]])) (LF:=λi N m=>MF (FU CX EE N) N m [aa (ints a),iI (ln (ints a)),iI (i:Int),J [aa (ints b)]])
  (bD acp (ax dY aL))
  λi hi r h2 h3=>bD acp<|br (dx hi)<|aH (cN hi)<|by
   rw [fK hi,ix hi ha];exact aj (h1 _) (aw (λhc=>af (h2 hc)) h3)
 rcases h with⟨h1,h2⟩|⟨h1,i,hi,h2⟩
 ·exact bx afg (aj (bx acr (aj (bx acD (aj h2.diag aL)) aL)) (af (by rw [xk,h1];rfl)))
 ·exact bx afg (aj (bx acr (aj (bx acD (aj h2.diag aL)) aL)) (af (by rw [xk,h1];simp [gI,gB,AV.toI,AV.toB])))
def amQ(ha:a.length<=mx)(hb:b.length<=mx):Ev I5 [aa (ints a),aa (ints b)] (0,[ak (xk a b)]):=by
 have h:=pq (l:=a) (p:=λx=> !dN b x) (hit:=(0,[aq])) (done:=(1,[])) (LF:=λi N m=>NG (FU CX EE N) N m [aa (ints a),aa (ints b),iI (i:Int)])
  (bD aec (ax dY aL))
  λi hi r h1 h2=>bD aec<|br (dx hi)<|aH (cN hi)<|by
   rw [fK hi,ix hi ha];exact aj (uL _ hb) (aw (λhc=>af (h1 hc)) h2)
 refine bx az5 (aj h.diag ?_);unfold xk;cases a.any λx=> !dN b x<;>exact aL
def sZ(l:cW)(lo hi:Int)(i:Nat):Bool:=bif decide (l.getD i 0<lo)then true else bif decide (hi<l.getD i 0)then true else bif decide (0<i)then decide (l.getD i 0<=l.getD (i- 1) 0)else false
def lr(l:cW)(lo hi:Int):Bool:= !(List.range l.length).any (sZ l lo hi)
def pr{n:Nat}(h:i<n)(hn:n<=mx)(h0:decide ((0:Int)<(i:Int))=true):bw ((i:Int)- 1)=((i- 1:Nat):Int):=by
 have:0<i:=by simpa using h0
 simp only [mx]at hn;exact vF
def zi:decide ((0:Int)<(i:Int))=decide (0<i):=by
 cases i with
 |zero=>rfl
 |succ n=>simp
def R4(lo hi:Int)(hl:l.length<=mx):Ev E7 [aa (ints l),iI lo,iI hi] (0,[ak (lr l lo hi)]):=by
 have h:=vv (m:=l.length) (p:=sZ l lo hi) (hit:=(0,[aq])) (done:=(1,[])) (LF:=λi N m=>IE (FU CX EE N) N m [aa (ints l),iI lo,iI hi,aa (ints l),iI (ln (ints l)),iI (i:Int)])
  (bD ad6 (ax dY aL))
  λi h r h1 h2=>bD ad6<|br (dx h)<|aH (cN h)<|by
   rw [mH h,ix h hl];refine aw (λhc=>af (h1 (by simp only [sZ,hc,cf]))) λhc=>aw (λhd=>af (h1 (aiV))) λhd=>aw (λhe=> ?_) λhe=>h2 (ajq);rw [pr h hl he];have tM:i- 1<l.length:=by omega
   rw [mH tM];rw [zi]at he;exact aH (cN tM)<|aw (λhf=>af (h1 (QT))) λhf=>h2 (QT)
 refine bx azr (aj h.diag ?_);exact ajC
def RZ(lo hi:Int)(hl:l.length<=mx):Ev Fg [aa (ints l),iI lo,iI hi] (0,[ak (lr l lo hi)]):=by
 have h:=vv (m:=l.length) (p:=sZ l lo hi) (hit:=(0,[aq])) (done:=(1,[])) (LF:=λi N m=>IJ (FU CX EE N) N m [aa (ints l),iI lo,iI hi,iI (i:Int)])
  (bD aeg (ax dY aL))
  λi h r h1 h2=>bD aeg<|br (dx h)<|aH (cN h)<|by
   rw [mH h,ix h hl];refine aw (λhc=>af (h1 (by simp only [sZ,hc,cf]))) λhc=>aH (cN h)<|aw (λhd=>af (h1 (aiV))) λhd=>aw (λhe=> ?_) λhe=>h2 (ajq);rw [pr h hl he];have tM:i- 1<l.length:=by omega
   rw [mH tM];rw [zi]at he;exact aH (cN h)<|aH (cN tM)<|aw (λhf=>af (h1 (QT))) λhf=>h2 (QT)
 refine bx az6 (aj h.diag ?_);exact ajC
def B7{k:IntKind}(es:List (AV×AV))(a b:Int)(v:AV):aA.dR (aA.iV es (.int k a) v) (.int k b)=if b=a then some v else aA.dR es (.int k b):=by
 induction es with
 |nil=>
  simp only [aA.iV,aA.dR,aA.tG]
  by_cases h:b=a
  ·subst h;simp
  ·have:(b==a)=false:=by simpa using h
   simp [h,this]
 |cons e es ih=>
  obtain⟨x,y⟩:=e;simp only [aA.iV];cases hk:aA.tG (.int k a) x with
  |true=>
   simp only [aA.dR];rw [show aA.tG (.int k b) (.int k a)=(b==a)from rfl]
   by_cases h:b=a
   ·subst h;simp
   ·have h2:(b==a)=false:=by simpa using h
    have h3:aA.tG (.int k b) x=false:=by
     cases x<;>simp only [aA.tG]at hk⊢<;>try cases hk
     have:=eq_of_beq hk;subst this;exact h2
    simp [h,h2,h3]
  |false=>
   simp only [aA.dR];rw [ih]
   by_cases h:b=a
   ·subst h;simp [hk]
   ·simp [h]
def oV(l:cW)(lo hi:Int)(i:Nat):Bool:=bif decide (l.getD i 0<lo)then true else bif decide (hi<l.getD i 0)then true else dN (l.take i) (l.getD i 0)
def jO(l:cW)(lo hi:Int):Bool:= !(List.range l.length).any (oV l lo hi)
def aCL(h:i<l.length)(n:Int):dN (l.take (i+1)) n=(dN (l.take i) n||l.getD i 0==n):=by
 unfold dN;rw [Cp,Yh];simp [dD h]
def aaS(lo hi:Int)(hl:l.length<=mx):Ev B3 [aa (ints l),iI lo,iI hi] (0,[ak (jO l lo hi)]):=by
 have h:=vv (m:=l.length) (p:=oV l lo hi) (hit:=(0,[aq])) (done:=(1,[])) (LF:=λi N m=>NF (FU CX EE N) N m [aa (ints l),iI lo,iI hi,iI (i:Int)])
  (bD aeb (ax dY aL))
  λi h r h1 h2=>bD aeb<|br (dx h)<|aH (cN h)<|by
   rw [mH h,ix h hl];refine aw (λhc=>af (h1 (by simp only [oV,hc,cf]))) λhc=>aH (cN h)<|aw (λhd=>af (h1 (aiQ))) λhd=>aH (by simp [ln];omega)<|aH (cN h) ?_;have e:(ints l).take ((i:Int).toNat)=ints (l.take i):=by rw [mU,<-List.map_take]
   rw [e];refine aj (uL (l.getD i 0) (eu)) (aw (λhf=>af (h1 ?_)) λhf=>h2 ?_)
   ·have hf:dN (l.take i) (l.getD i 0)=true:=hf;simp only [oV,hc,hd,hf,cE]
   ·have hf:dN (l.take i) (l.getD i 0)=false:=hf;simp only [oV,hc,hd,hf,cE]
 refine bx az3 (aj h.diag ?_);unfold jO;cases(List.range l.length).any (oV l lo hi)<;>exact aL
def ayP{p:Nat->Bool}{m:Nat}(h:i<m):(List.range' i (m- i)).any p=(p i||(List.range' (i+1) (m-(i+1))).any p):=by
 rw [show m- i=(m-(i+1))+1 by omega,List.range'_succ,Cf]
def aaT(lo up:Int)(hl:l.length<=mx):Ev IS [aa (ints l),iI lo,iI up] (0,[ak (jO l lo up)]):=by
 have h:=fH (m:=l.length) (P:=λi=>∀es:List (AV×AV),(∀x,dR es (.int .i64 x)=if dN (l.take i) x=true then some (cw)else none)->
  ∃ys,bP BS [iI lo,iI up,aa (ints l),iI (ln (ints l)),iI (i:Int),.ab 0 (az es)] (bif (List.range' i (l.length- i)).any (oV l lo up)then(0,[aq,.ab 0 ys])else(1,[.ab 0 ys])))
  (λes _=>⟨az (au (az es)),bD ad3 (ax dY (af (by simp)))⟩)
  λi hi ih es he=>by
   have hf:=he (l.getD i 0);have step:∀ys r,(oV l lo up i=true->(0,[aq,.ab 0 (az (au (az es)))])=r)->(oV l lo up i=false->bP BS [iI lo,iI up,aa (ints l),iI (ln (ints l)),iI ((i+1:Nat):Int),.ab 0 ys] r)->ys=az (iV es (.int .i64 (l.getD i 0)) (cw))->
    bP BS [iI lo,iI up,aa (ints l),iI (ln (ints l)),iI (i:Int),.ab 0 (az es)] r:=by
    intro ys r h1 h2 hy;refine bD ad3<|br (dx hi)<|aH (cN hi) ?_;rw [mH hi,ix hi hl];refine aw (λhc=>af (h1 (by simp only [oV,hc,cf]))) λhc=>aw (λhd=>af (h1 (aiQ))) λhd=> ?_;cases hn:dN (l.take i) (l.getD i 0)with
    |true=>
     rw [hn,if_pos rfl]at hf;rw [show dR (au (az es)) (iI (l.getD i 0))=some (cw)by rw [sJ];exact hf];exact aY (af (h1 (by simp only [oV,hc,hd,hn,cE])))
    |false=>
     rw [hn,if_neg (by simp)]at hf;rw [show dR (au (az es)) (iI (l.getD i 0))=none by rw [sJ];exact hf];rw [sJ,<-hy];exact h2 (by simp only [oV,hc,hd,hn,cE])
   rw [ayP hi];cases hp:oV l lo up i with
   |true=>exact⟨_,step _ _ (λ_=>rfl) (λh=>J7) rfl⟩
   |false=>
    rw [Pk];obtain⟨ys,hy⟩:=ih (iV es (.int .i64 (l.getD i 0)) (cw)) λx=>by
     rw [B7,he,aCL hi]
     by_cases hx:x=l.getD i 0
     ·subst hx;simp
     ·have:(l.getD i 0==x)=false:=by simpa using λh=>hx h.symm
      rw [if_neg hx,this,Yg]
    exact⟨ys,step _ _ (λh=>J7) (λ_=>hy) rfl⟩
 obtain⟨ys,h⟩:=h [] λx=>by simp [dR,dN]
 refine bx azq (aj h.diag ?_);unfold jO;rw [List.range_eq_range',Nat.sub_zero];cases(List.range' 0 l.length).any (oV l lo up)<;>exact aL
end
end Go.Proofs.YtomkobcipaligaaGreatDoor
namespace Go.aA
def aoF{p:Prop}(h:p:=by
 refine aw (λh1=> ?_) λh1=>af (by simp only [mY,h1,cE]);refine aw (λh2=> ?_) λh2=>af (by rw [dB]at h2;simp only [mY,h1,h2,cE,cf]);rw [dB]at h2;have hi:=sW h1 h2;have dZ:ib o (cb l).length =true:=by rw [py];exact hi
 refine aH dZ ?_;rw [mj hi];refine aw (c:= !(cQ l o).ptr) (λh3=> ?_) λh3=>af (by simp only [mY,h1,h2,h3,cE,cf]);refine aw (λh4=> ?_) λh4=>af (by simp only [mY,h1,h2,h3,h4,cE,cf]);refine aw (λh5=> ?_) λh5=>af (by simp only [mY,h1,h2,h3,h4,h5,cE,cf]);refine aH dZ ?_;refine aw (c:=decide (off<=(cQ l o).size)) (λh6=> ?_) λh6=>af (by simp only [mY,h1,h2,h3,h4,h5,h6,cE,cf]);exact aH dZ (af (by simp only [mY,h1,h2,h3,h4,h5,h6,cf];rfl))):p:=h
def akz{p:Prop}(h:p:=by
 rw [ag2]at hb⊢;intro h;apply hb;simp at h⊢;omega):p:=h
def J6{p:Prop}(h:p:=by rw [py];exact hi):p:=h
def aj0{p:Prop}(h:p:=by rw [bM,jm,jm];simp only [mo,nQ];omega):p:=h
def ajV{p:Prop}(h:p:=by rw [dB]at h2;simp only [jw,h1,h2,cE,cf]):p:=h
def Zm{p:Prop}(h:p:=by rw [hw];simpa using c1):p:=h
def ajg{p:Prop}(h:p:=by simp only [jw,h1,h2,h3,cE,cf]):p:=h
def ajb{p:Prop}(h:p:=by rw [P8,Ki,FB];simp;omega):p:=h
def Qj{p:Prop}(h:p:=by simpa using c2):p:=h
end Go.aA
namespace Go.aA
def gK:=@List.drop_length
def ph:=@Bool.and_false
def FB:=@Bool.eq_iff_iff
end Go.aA
namespace Go.Proofs.YtomkobcipaligaaGreatDoor
open Go Go.aA
section
variable{e:CE}{en i n o off:Int}{l:List OB}
abbrev cb(l:List OB):aW:=l.map gj
def ob0:OB:=⟨0,0,0,false,[]⟩
def cQ(l:List OB)(i:Int):OB:=l.getD i.toNat ob0
def mj(h:ib i l.length=true):gA (cb l) i.toNat=gj (cQ l i):=by
 simp only [ib,bM,jm]at h;have:i.toNat<l.length:=by omega
 rw [sQ this];simp [cQ,this]
def py:ib i (cb l).length =ib i l.length:=by simp
def sW{n:Nat}(h0:decide (0<=i)=true)(h1:decide (i<(n:Int))=true):ib i n=true:=by
 unfold ib;rw [h0,h1];rfl
def dB{α:Type}(f:α->Row)(l:List α):ln (l.map f)=(l.length:Int):=by simp [ln]
def jw(l:List OB)(o off:Int):Bool:=bif decide (0<=o)then bif decide (o<(l.length:Int))then bif decide (0<=off)then decide (off<(cQ l o).size)else false else false else false
def QW:Ev BI [J [bJ (cb l),iI en],iI o,iI off] (0,[ak (jw l o off)]):=by
 refine bx aup ?_;refine aw (λh1=> ?_) λh1=>af (by simp only [jw,h1,cE]);refine aw (c:=decide (o<ln (cb l))) (λh2=> ?_) λh2=>af (ajV);rw [dB]at h2;refine aw (λh3=> ?_) λh3=>af (ajg);have hi:=sW h1 h2;refine aH (by rw [show gR [bJ (cb l),iI en] 0=cb l from rfl,py];exact hi) (af ?_);rw [show gR [bJ (cb l),iI en] 0=cb l from rfl,mj hi];simp only [jw,h1,h2,h3,cf];rfl
def alq:Ev O2 [bJ (cb l),iI o,iI off] (0,[ak (jw l o off)]):=by
 refine bx aBr ?_;refine aw (λh1=> ?_) λh1=>af (by simp only [jw,h1,cE]);refine aw (c:=decide (o<ln (cb l))) (λh2=> ?_) λh2=>af (ajV);rw [dB]at h2;refine aw (λh3=> ?_) λh3=>af (ajg);have hi:=sW h1 h2;refine aH (J6) (af ?_);rw [mj hi];simp only [jw,h1,h2,h3,cf];rfl
def mY(l:List OB)(o off n:Int):Bool:=bif decide (0<=o)then bif decide (o<(l.length:Int))then bif !(cQ l o).ptr then bif decide (0<=off)then bif decide (1<=n)then bif decide (off<=(cQ l o).size)then decide (n<=bw ((cQ l o).size - off))else false else false else false else false else false else false
def aog:Ev Nq [J [bJ (cb l),iI en],iI o,iI off,iI n] (0,[ak (mY l o off n)]):=by
 refine bx awr ?_;rw [show gR [bJ (cb l),iI en] 0=cb l from rfl];exact aoF
def amu:Ev O5 [bJ (cb l),iI o,iI off,iI n] (0,[ak (mY l o off n)]):=by
 refine bx aBv ?_;exact aoF
mutual
def jy:CE->Nat
 | .mk _ _ _ _ _ _ _ _ l=>mo l+1
def mo:List CE->Nat
 | []=>0
 |e::es=>jy e+mo es
end
mutual
def nn:CE->Nat
 | .mk _ _ _ _ _ _ _ _ l=>nQ l+1
def nQ:List CE->Nat
 | []=>0
 |e::es=>max (nn e) (nQ es)
end
def P8(e:CE):jy e=mo e.L+1:=by cases e;rfl
def Ki(e:CE):nn e=nQ e.L+1:=by cases e;rfl
def JE(e:CE):1<=jy e:=by rw [P8];omega
def CE.Ok.len(h:e.Ok):e.L.length<=mx:=by cases h;assumption
def CE.Ok.uH{y:CE}(h:e.Ok)(hy:y∈e.L):y.Ok:=by cases h with|mk _ _ h=>exact h y hy
def sX{l:List CE}{i:Nat}(h:i<l.length):nL (gA (l.map aP) ((i:Int).toNat))=aP l[i]:=by rw [fK h,eQ]
def aEi:∀(e:CE),e.Ok->∀(d n:Int),0<=d->d<=64->0<=n->n<=1000->
 ∃n',Ev I9 [J (aP e),iI d,J [iI n]] (0,[ak (decide ((jy e:Int)<=n)&&decide (d+nn e<=64)),J [iI n']])∧((decide ((jy e:Int)<=n)&&decide (d+nn e<=64))=true->n'=n- jy e):=by
 refine CE.ind λe ih bz d n hd dI hn hn'=> ?_;have hw:bw (n- 1)=n- 1:=jI (by omega) (by omega)
 by_cases c1:n- 1<0
 ·refine⟨bw (n- 1),bx W2 (br (c:=decide (bw (n- 1)<0)) (Zm) (af (o:=(0,[aq,J [iI (bw (n- 1))]])) ?_)),λh=> ?_⟩
  ·have:decide ((jy e:Int)<=n)=false:=by have:=JE e;simp;omega
   exact fa
  ·have:=JE e;simp at h;omega
 by_cases c2:64<=d
 ·refine⟨bw (n- 1),bx W2 (ax (c:=decide (bw (n- 1)<0)) (Zm) (br (Qj) (af (o:=(0,[aq,J [iI (bw (n- 1))]])) ?_))),λh=> ?_⟩
  ·have:decide (d+(nn e:Int)<=64)=false:=by rw [Ki];simp;omega
   rw [this,ph]
  ·rw [Ki]at h;simp at h;omega
 have tO:bw (d+1)=d+1:=jI (by omega) (by omega);have h:=fH (m:=e.L.length) (P:=λi=>∀n:Int,0<=n->n<=1000->∃n',
  bP IC [iI d,aT (e.L.map aP),iI (ln (e.L.map aP)),iI (i:Int),J [iI n]]
   (bif decide ((mo (e.L.drop i):Int)<=n)&&decide (d+1+nQ (e.L.drop i)<=64)then(1,[J [iI (n- mo (e.L.drop i))]])else(0,[aq,J [iI n']])))
  (λn h0 h1=>⟨0,bD Vv (ax dY (af (by
    rw [gK];have:(decide (((mo []:Nat):Int)<=n)&&decide (d+1+((nQ []:Nat):Int)<=64))=true:=aj0;rw [this];simp [mo];rfl)))⟩)
  λi hi fr n h0 h1=>by
   obtain⟨n',hk,oX⟩:=ih e.L[i] (dy hi) (bz.uH (dy hi)) (d+1) n (by omega) (by omega) h0 h1;rw [fW hi];generalize hA:mo (e.L[i]::e.L.drop (i+1))=A;generalize hB:nQ (e.L[i]::e.L.drop (i+1))=B;have hA:A=jy e.L[i]+mo (e.L.drop (i+1)):=hA.symm;have hB:B=max (nn e.L[i]) (nQ (e.L.drop (i+1))):=hB.symm;cases hb:(decide ((jy e.L[i]:Int)<=n)&&decide (d+1+nn e.L[i]<=64))with
   |false=>
    rw [hb]at hk;refine⟨n',bD Vv<|br (dx hi)<|aH (cN hi) ?_⟩;rw [sX hi,tO];refine aj hk (aY (af ?_));have:(decide ((A:Int)<=n)&&decide (d+1+(B:Int)<=64))=false:=akz;exact fa
   |true=>
    rw [hb]at hk;have:=oX hb;subst this;simp only [bM,jm]at hb;obtain⟨n2,h2⟩:=fr (n- jy e.L[i]) (by omega) (by have:=JE e.L[i];omega);refine⟨n2,bD Vv<|br (dx hi)<|aH (cN hi) ?_⟩;rw [sX hi,tO,ix hi bz.len];refine aj hk (bj (E.to h2 ?_));have:(decide ((mo (List.drop (i+1) e.L):Int)<=n- jy e.L[i])&&decide (d+1+(nQ (List.drop (i+1) e.L):Int)<=64))=(decide ((A:Int)<=n)&&decide (d+1+(B:Int)<=64)):=by
     rw [FB];simp;omega
    rw [this,show n-(jy e.L[i]:Int)-(mo (List.drop (i+1) e.L):Int)=n-(A:Int)by omega]
 obtain⟨n',h⟩:=h (n- 1) (by omega) (by omega);rw [gJ]at h;have hq:(decide ((jy e:Int)<=n)&&decide (d+nn e<=64))=(decide ((mo e.L:Int)<=n- 1)&&decide (d+1+nQ e.L<=64)):=ajb;rw [hq];have go:∀o,bP IC [iI d,aT (e.L.map aP),iI (ln (e.L.map aP)),iI ((0:Nat):Int),J [iI (n- 1)]] o->∀r,E (λN m=>bif Nat.beq o.1 0 then some (0,[ak (gB o.2 0),J [iI (gI (gC o.2 1) 0)]])else some (0,[cw,J [iI (gI (gC o.2 0) 0)]])) r->Ev I9 [J (aP e),iI d,J [iI n]] r:=λo ho r hr=>by
  refine bx W2 (ax (c:=decide (bw (n- 1)<0)) (Zm) (ax (Qj) ?_));rw [uz];rw [<-hw]at ho;exact aj ho.diag hr
 cases hb:(decide ((mo e.L:Int)<=n- 1)&&decide (d+1+nQ e.L<=64))with
 |true=>
  rw [hb]at h;exact⟨_,go _ h _ aL,λ_=>by rw [P8];show(n- 1- _:Int)=_;omega⟩
 |false=>
  rw [hb]at h;exact⟨_,go _ h _ aL,λh=>aX⟩
end
end Go.Proofs.YtomkobcipaligaaGreatDoor
namespace Go.aA
def al8{p:Prop}(h:p:=by
 refine aw (c:=b.ptr) (λh2=>ax (c:=a.ptr) h1 (af (by simp only [oq,h1,h2,cf,cE]))) λh2=> ?_;exact aw (c:=decide (b.lo<=a.lo)) (λh3=>af (by simp only [oq,h1,h2,h3,cf,cE];rfl)) λh3=>af (by simp only [oq,h1,h2,h3,cE])):p:=h
def al0{p:Prop}(h:p:=by exact aw (c:= !s.ptr) (λh2=>aw (c:=decide (o.lo<=s.lo)) (λh3=>af (by simp only [iW,h1,h2,h3,cf,cE];rfl)) λh3=>af (by simp only [iW,h1,h2,h3,cf,cE])) λh2=>af (by simp only [iW,h1,h2,cE])):p:=h
def alR{p:Prop}(h:p:=by refine aw (c:= !s.ptr) (λh1=>aw (c:=decide (0<=s.lo)) (λh2=>af ?_) λh2=>af ?_) λh1=>af ?_<;>simp only [ku,h1,cf,cE]<;>(try simp only [h2,cf,cE])<;>rfl):p:=h
def mW{p:Prop}(h:p:=by exact aY aL):p:=h
def ajp{p:Prop}(h:p:=by simp only [iW,h1,h2,h3,cf,cE];rfl):p:=h
def ai9{p:Prop}(h:p:=by simp only [iW,h1,h2,h3,cf,cE]):p:=h
def aiW{p:Prop}(h:p:=by simp only [oq,h1,h2,cf,cE]):p:=h
end Go.aA
namespace Go.Proofs.YtomkobcipaligaaGreatDoor
open Go Go.aA
section
variable{a b o:OB}{s:SO}
def aFt:∀(e:CE),e.Ok->∀(room deep:Int),0<=deep->deep<=64->0<=room->room<=1000->
 Ev O3 [J (aP e),iI room,iI deep] (0,[iI (bif decide ((jy e:Int)<=room)&&decide ((nn e:Int)<=deep)then(jy e:Int)else-1)]):=by
 refine CE.ind λe ih bz room deep hd dI hn hn'=> ?_;have ps:=JE e;have pd:1<=nn e:=by rw [Ki];omega
 by_cases c1:room<1
 ·refine bx XD (xh W0 (ail (by simpa using c1) (mF (bj (af ?_)))));have:(decide ((jy e:Int)<=room)&&decide ((nn e:Int)<=deep))=false:=eu;exact fa
 by_cases c2:deep<1
 ·refine bx XD (xh W0 (Kl (by simpa using c1) (ail (Qj) (mF (bj (af ?_))))));have:(decide ((jy e:Int)<=room)&&decide ((nn e:Int)<=deep))=false:=eu;exact fa
 have tO:bw (deep- 1)=deep- 1:=jI (by omega) (by omega);have h:=fH (m:=e.L.length) (P:=λi=>∀n:Int,1<=n->n<=room->
  bP NW [iI room,iI deep,iI n,iI (i:Int),J (aP e)]
   (bif decide (n+mo (e.L.drop i)<=room)&&decide ((nQ (e.L.drop i):Int)<=deep- 1)then(1,[iI (n+mo (e.L.drop i)),J (aP e)])else(0,[iI (-1),J (aP e)])))
  (λn h0 h1=>bD aeA (by
    rw [uz];refine ax dY (af ?_);rw [gK,eQ];have:(decide (n+((mo []:Nat):Int)<=room)&&decide (((nQ []:Nat):Int)<=deep- 1))=true:=aj0;rw [this];simp [mo]))
  λi hi fr n h0 h1=>by
   have hw:bw (room- n)=room- n:=jI (by omega) (by omega);have hk:=ih e.L[i] (dy hi) (bz.uH (dy hi)) (room- n) (deep- 1) (by omega) (by omega) (by omega) (by omega);have pk:=JE e.L[i];rw [fW hi];generalize hA:mo (e.L[i]::e.L.drop (i+1))=A;generalize hB:nQ (e.L[i]::e.L.drop (i+1))=B;have hA:A=jy e.L[i]+mo (e.L.drop (i+1)):=hA.symm;have hB:B=max (nn e.L[i]) (nQ (e.L.drop (i+1))):=hB.symm;refine bD aeA ?_;rw [uz,eQ];refine br (dx hi)<|aH (cN hi) ?_;rw [sX hi,tO,hw,ix hi bz.len];cases hb:(decide ((jy e.L[i]:Int)<=room- n)&&decide ((nn e.L[i]:Int)<=deep- 1))with
   |false=>
    rw [hb]at hk;refine aj hk (aY (af ?_));have:(decide (n+(A:Int)<=room)&&decide ((B:Int)<=deep- 1))=false:=akz;exact fa
   |true=>
    rw [hb]at hk;simp only [bM,jm]at hb;have h2:=fr (n+jy e.L[i]) (by omega) (by omega);refine aj hk (ax (c:=decide ((jy e.L[i]:Int)<0)) (by simp) ?_);rw [show bw (n+gI (0,[iI (bif true then(jy e.L[i]:Int)else-1)]).2 0)=n+(jy e.L[i]:Int)from jI (by show-9223372036854775808<=n+(jy e.L[i]:Int);omega) (by show n+(jy e.L[i]:Int)<=9223372036854775807;omega)];refine E.to h2 ?_;have:(decide (n+(jy e.L[i]:Int)+(mo (List.drop (i+1) e.L):Int)<=room)&&decide ((nQ (List.drop (i+1) e.L):Int)<=deep- 1))=(decide (n+(A:Int)<=room)&&decide ((B:Int)<=deep- 1)):=by
     rw [FB];simp;omega
    rw [this,show n+(jy e.L[i]:Int)+(mo (List.drop (i+1) e.L):Int)=n+(A:Int)by omega]
 have h:=h 1 (by omega) (by omega);rw [gJ]at h;have hq:(decide ((jy e:Int)<=room)&&decide ((nn e:Int)<=deep))=(decide (1+(mo e.L:Int)<=room)&&decide ((nQ e.L:Int)<=deep- 1)):=ajb;rw [hq];refine bx XD (xh W0 (Kl (by simpa using c1) (Kl (Qj) (mF (aY ?_)))));rw [eQ];refine aj h.diag ?_;cases hb:(decide (1+(mo e.L:Int)<=room)&&decide ((nQ e.L:Int)<=deep- 1))with
 |true=>exact bj (af (by rw [P8];simp only [cf,gI,AV.toI,List.getD_cons_zero];congr 3;omega))
 |false=>exact mW
def Hj(e:CE):Bool:=decide ((jy e:Int)<=256)&&decide ((nn e:Int)<=64)
def amL(s:OB):NP (gj s)=gj s:=rfl
def ku(s:SO):Bool:=bif !s.ptr then bif decide (0<=s.lo)then decide (s.hi<=1)else false else false
def AD(s:SO):Ev rJ [J (bU s)] (0,[ak (ku s)]):=by
 refine bx avn ?_;exact alR
def AB(s:SO):Ev wH [J (bU s)] (0,[ak (ku s)]):=by
 refine bx aAQ ?_;exact alR
def iW(s:SO)(o:OB):Bool:=bif o.ptr then bif s.null then true else bif s.ptr then xk s.set o.set else false else bif !s.ptr then bif decide (o.lo<=s.lo)then decide (s.hi<=o.hi)else false else false
def aOD(hs:s.set.length<=mx)(ho:o.Ok):Ev VP [J (bU s),J (gj o)] (0,[ak (iW s o)]):=by
 refine bx awq ?_;refine aw (c:=o.ptr) (λh1=>aw (c:=s.null) (λh2=>af (by simp only [iW,h1,h2,cf])) λh2=>aw (c:=s.ptr) (λh3=>aj (amR hs ho) (af (ajp))) λh3=>af (ai9)) λh1=> ?_;exact al0
def aOC(hs:s.set.length<=mx)(ho:o.Ok):Ev XQ [J (gj o),J (bU s)] (0,[ak (iW s o)]):=by
 refine bx aBu ?_;refine aw (c:=o.ptr) (λh1=>aw (c:=s.null) (λh2=>af (by simp only [iW,h1,h2,cf])) λh2=>aw (c:=s.ptr) (λh3=>aj (amQ hs ho) (af (ajp))) λh3=>af (ai9)) λh1=> ?_;exact al0
def oq(a b:OB):Bool:=bif a.ptr then bif b.ptr then xk a.set b.set else false else bif b.ptr then false else bif decide (b.lo<=a.lo)then decide (a.hi<=b.hi)else false
def abq(ha:a.Ok)(hb:b.Ok):Ev Jg [J (gj a),J (gj b)] (0,[ak (oq a b)]):=by
 refine bx aA1 ?_;refine aw (c:=a.ptr) (λh1=>br (c:=a.ptr) h1 (aw (c:=b.ptr) (λh2=>aj (amR ha hb) (af (by simp only [oq,h1,h2,cf];rfl))) λh2=>af (aiW))) λh1=> ?_;exact al8
def abp(ha:a.Ok)(hb:b.Ok):Ev I7 [J (gj a),J (gj b)] (0,[ak (oq a b)]):=by
 refine bx az9 ?_;refine aw (c:=a.ptr) (λh1=>br (c:=a.ptr) h1 (aw (c:=b.ptr) (λh2=>aj (amQ ha hb) (af (by simp only [oq,h1,h2,cf];rfl))) λh2=>af (aiW))) λh1=> ?_;exact al8
end
end Go.Proofs.YtomkobcipaligaaGreatDoor
namespace Go.aA
def ZM{p:Prop}(h:p:=by rw [FZ];exact⟨rfl,rfl,rfl,rfl,rfl,rfl,rfl⟩):p:=h
def akj{p:Prop}(h:p:=by simp only [fu,h1,h2,h3,h4,h5,h6,h7,h8,h9,jd,cf,cE];rfl):p:=h
def akb{p:Prop}(h:p:=by simp only [fu,h1,h2,h3,h4,h5,h6,h7,h8,h9,cf,cE];rfl):p:=h
def aj4{p:Prop}(h:p:=by simp only [fu,h1,h2,h3,h4,h5,h6,h7,h8,cf,cE];rfl):p:=h
def ajZ{p:Prop}(h:p:=by simp only [fu,h1,h2,h3,h4,h5,h6,h7,h8,h9,jd,cE];rfl):p:=h
def ajT{p:Prop}(h:p:=by simp only [fu,h1,h2,h3,h4,h5,h6,h7,cf,cE];rfl):p:=h
def ajN{p:Prop}(h:p:=by simp only [fu,h1,h2,h3,h4,h5,h6,cf,cE];rfl):p:=h
def ajD{p:Prop}(h:p:=by simp only [fu,h1,h2,h3,h4,h5,cf,cE];rfl):p:=h
def ajv{p:Prop}(h:p:=by simp only [fu,h1,h2,h3,h4,cf,cE];rfl):p:=h
def ajo{p:Prop}(h:p:=by simp only [fu,h1,h2,h3,cf,cE];rfl):p:=h
def aja{p:Prop}(h:p:=by simp only [fu,h1,h2,cf,cE];rfl):p:=h
def aiM{p:Prop}(h:p:=by simp only [kN,h1,h2,cf,cE]):p:=h
def aiL{p:Prop}(h:p:=by simp only [kT,h1,h2,cf,cE]):p:=h
end Go.aA
namespace Go.aA
def YA:=@Bool.and_true
def oK:=@Bool.true_and
end Go.aA
namespace Go.Proofs.YtomkobcipaligaaGreatDoor
open Go Go.aA
section
variable{a b:Int}
def kN(k:Int):Bool:=bif k==1 then true else bif k==11 then true else k==14
def kT(k:Int):Bool:=bif k==6 then true else bif k==7 then true else k==10
def fu(e:CE):CE×Int:=
 bif kN e.kind then(.mk e.kind 0 e.N 0 0 0 0 0 [],0)
 else bif e.kind==2 then(.mk e.kind 0 0 e.O e.off 0 0 0 [],0)
 else bif e.kind==3 then(.mk e.kind 0 0 e.O e.off e.len 0 0 [],1)
 else bif e.kind==4 then(.mk e.kind e.op 0 0 0 0 0 0 [],1)
 else bif e.kind==5 then(.mk e.kind e.op 0 0 0 0 0 0 [],2)
 else bif kT e.kind then(.mk e.kind 0 0 0 0 0 0 0 [],2)
 else bif e.kind==8 then(.mk e.kind 0 0 0 0 0 0 0 [],3)
 else bif e.kind==9 then(.mk e.kind 0 0 0 0 0 e.lo e.hi [],1)
 else bif e.kind==12 then(.mk e.kind 0 0 e.O 0 0 0 0 [],0)
 else bif e.kind==13 then(.mk e.kind 0 0 0 0 0 0 0 [],1)
 else(.mk e.kind 0 0 0 0 0 0 0 [],-1)
def kNC(k:Int):bK VI [bE k] (0,[ak (kN k)]):=
 bW avf (aw (λh1=>af (by simp only [kN,h1,cf])) λh1=>aw (λh2=>af (aiM)) λh2=>af (by simp only [kN,h1,h2,cE]))
def kNR(k:Int):bK VW [bE k] (0,[ak (kN k)]):=
 bW av8 (aw (λh1=>af (by simp only [kN,h1,cf])) λh1=>aw (λh2=>af (aiM)) λh2=>af (by simp only [kN,h1,h2,cE]))
def kTC(k:Int):bK UP [bE k] (0,[ak (kT k)]):=
 bW asN (aw (λh1=>af (by simp only [kT,h1,cf])) λh1=>aw (λh2=>af (aiL)) λh2=>af (by simp only [kT,h1,h2,cE]))
def kTR(k:Int):bK U0 [bE k] (0,[ak (kT k)]):=
 bW atn (aw (λh1=>af (by simp only [kT,h1,cf])) λh1=>aw (λh2=>af (aiL)) λh2=>af (by simp only [kT,h1,h2,cE]))
def exC(e:CE):Ev Xg [J (aP e)] (0,[J (aP (fu e).1),iI (fu e).2]):=by
 rw [FZ e];refine bx aAi (aj (kNC e.kind) (aw (c:=kN e.kind) (λh1=> ?_) λh1=>aw (c:=e.kind==2) (λh2=> ?_) λh2=>aw (c:=e.kind==3) (λh3=> ?_) λh3=>aw (c:=e.kind==4) (λh4=> ?_) λh4=>aw (c:=e.kind==5) (λh5=> ?_) λh5=>
  aj (kTC e.kind) (aw (c:=kT e.kind) (λh6=> ?_) λh6=>aw (c:=e.kind==8) (λh7=> ?_) λh7=>aw (c:=e.kind==9) (λh8=> ?_) λh8=>aw (c:=e.kind==12) (λh9=> ?_) λh9=>aw (c:=e.kind==13) (λjd=> ?_) λjd=> ?_)))
 ·exact aj (bx ayH aL) (af (by simp only [fu,h1,cf];rfl))
 ·exact aj (bx Wd aL) (aj (bx aeT aL) (af (aja)))
 ·exact aj (bx Wd aL) (aj (bx aeT aL) (aj (bx ayG aL) (af (ajo))))
 ·exact aj (bx aeS aL) (af (ajv))
 ·exact aj (bx aeS aL) (af (ajD))
 ·exact af (ajN)
 ·exact af (ajT)
 ·exact aj (bx ayF aL) (af (aj4))
 ·exact aj (bx Wd aL) (af (akb))
 ·exact af (akj)
 ·exact af (ajZ)
def mq(e:CE):Bool:=
 ((fu e).2 ==(e.L.length:Int))&&((fu e).1.N ==e.N)&&((fu e).1.op ==e.op)&&((fu e).1.O ==e.O)&&((fu e).1.off ==e.off)&&((fu e).1.len ==e.len)&&((fu e).1.lo ==e.lo)&&((fu e).1.hi ==e.hi)
def im(h:(a != b)=true):(a==b)=false:=jU
def cT(h:(a != b)=false):(a==b)=true:=jU
def apm(e:CE)(x:bl):bK UM [iI (fu e).2,J (aP e),J x,J (aP (fu e).1),aa []]
 (bif mq e then(0,[J (aP e),J (sT (eY x) ox),J (aP (fu e).1),aa []])else(1,[aq,J (aP e),J [aq,aq,.aC 3,iI 0,iI 0],J (aP (fu e).1),aa []])):=by
 refine bW asL ?_;rw [eQ,eQ,uz,dB];have g:∀y:CE,gI (aP y) 1=y.op∧gI (aP y) 2=y.N∧gI (aP y) 3=y.O∧gI (aP y) 4=y.off∧gI (aP y) 5=y.len∧gI (aP y) 6=y.lo∧gI (aP y) 7=y.hi:=λy=>ZM;obtain⟨a1,a2,a3,a4,a5,a6,a7⟩:=g e;obtain⟨b1,b2,b3,b4,b5,b6,b7⟩:=g (fu e).1;rw [a1,a2,a3,a4,a5,a6,a7,b1,b2,b3,b4,b5,b6,b7];refine aw (λh1=>af ?_) λh1=>aw (λh2=>af ?_) λh2=>aw (λh3=>af ?_) λh3=>aw (λh4=>af ?_) λh4=>aw (λh5=>af ?_) λh5=>aw (λh6=>af ?_) λh6=>aw (λh7=>af ?_) λh7=>aw (λh8=>af ?_) λh8=>af ?_
 ·simp only [mq,im h1,nq,cE]
 ·simp only [mq,cT h1,im h2,nq,ph,cE]
 ·simp only [mq,cT h1,cT h2,im h3,nq,ph,cE]
 ·simp only [mq,cT h1,cT h2,cT h3,im h4,nq,ph,cE]
 ·simp only [mq,cT h1,cT h2,cT h3,cT h4,im h5,nq,ph,cE]
 ·simp only [mq,cT h1,cT h2,cT h3,cT h4,cT h5,im h6,nq,ph,cE]
 ·simp only [mq,cT h1,cT h2,cT h3,cT h4,cT h5,cT h6,im h7,nq,ph,cE]
 ·simp only [mq,cT h1,cT h2,cT h3,cT h4,cT h5,cT h6,cT h7,im h8,ph,cE]
 ·simp only [mq,cT h1,cT h2,cT h3,cT h4,cT h5,cT h6,cT h7,cT h8,YA,cf]
def aGm(e:CE):bK Wn [iI 0,J (aP e),J [bE e.kind,bE 0,iI 0,iI 0,iI 0,iI 0,iI 0,iI 0,.aC 2],aT []]
 (bif (fu e).2 == -1 then(1,[aq,J (aP e),J (sT (aP (fu e).1) oy),aT []])else(0,[iI (fu e).2,J (aP e),J (sT (aP (fu e).1) oy),aT []])):=by
 refine bW axp ?_;rw [eQ];have g:gI (aP e) 0=e.kind∧gI (aP e) 1=e.op∧gI (aP e) 2=e.N∧gI (aP e) 3=e.O∧gI (aP e) 4=e.off∧gI (aP e) 5=e.len∧gI (aP e) 6=e.lo∧gI (aP e) 7=e.hi:=by
  rw [FZ];exact⟨rfl,rfl,rfl,rfl,rfl,rfl,rfl,rfl⟩
 obtain⟨a0,a1,a2,a3,a4,a5,a6,a7⟩:=g;rw [a0,a1,a2,a3,a4,a5,a6,a7];refine aj (kNR e.kind) (aw (c:=kN e.kind) (λh1=> ?_) λh1=>aw (c:=e.kind==2) (λh2=> ?_) λh2=>aw (c:=e.kind==3) (λh3=> ?_) λh3=>aw (c:=e.kind==4) (λh4=> ?_) λh4=>aw (c:=e.kind==5) (λh5=> ?_) λh5=>
  aj (kTR e.kind) (aw (c:=kT e.kind) (λh6=> ?_) λh6=>aw (c:=e.kind==8) (λh7=> ?_) λh7=>aw (c:=e.kind==9) (λh8=> ?_) λh8=>aw (c:=e.kind==12) (λh9=> ?_) λh9=>aw (c:=e.kind==13) (λjd=> ?_) λjd=> ?_))
 ·exact af (by simp only [fu,h1,cf];rfl)
 ·exact af (aja)
 ·exact af (ajo)
 ·exact af (ajv)
 ·exact af (ajD)
 ·exact af (ajN)
 ·exact af (ajT)
 ·exact af (aj4)
 ·exact af (akb)
 ·exact af (akj)
 ·exact af (ajZ)
def apl(e:CE):Ev Xe [J (aP e)] (0,[ak (mq e)]):=by
 refine bx aAa ?_;rw [eQ,show gI (aP e) 0=e.kind by rw [FZ];rfl];refine aj (aGm e) ?_;cases hk:(fu e).2 == -1 with
 |true=>
  refine bj (af ?_);have:((fu e).2 ==(e.L.length:Int))=false:=by rw [eq_of_beq hk];simp
  simp only [mq,this,nq];rfl
 |false=>
  refine aY ?_;simp only [cE];rw [show gC (0,[iI (fu e).2,J (aP e),J (sT (aP (fu e).1) oy),aT []]).2 1=aP e from rfl,show gC (0,[iI (fu e).2,J (aP e),J (sT (aP (fu e).1) oy),aT []]).2 2=sT (aP (fu e).1) oy from rfl,uz,dB];have g:gI (aP e) 1=e.op∧gI (aP e) 2=e.N∧gI (aP e) 3=e.O∧gI (aP e) 4=e.off∧gI (aP e) 5=e.len∧gI (aP e) 6=e.lo∧gI (aP e) 7=e.hi:=ZM;have g':∀y:CE,gI (sT (aP y) oy) 1=y.op∧gI (sT (aP y) oy) 2=y.N∧gI (sT (aP y) oy) 3=y.O∧gI (sT (aP y) oy) 4=y.off∧gI (sT (aP y) oy) 5=y.len∧gI (sT (aP y) oy) 6=y.lo∧gI (sT (aP y) oy) 7=y.hi:=λy=>ZM;obtain⟨a1,a2,a3,a4,a5,a6,a7⟩:=g;obtain⟨b1,b2,b3,b4,b5,b6,b7⟩:=g' (fu e).1;rw [a1,a2,a3,a4,a5,a6,a7,b1,b2,b3,b4,b5,b6,b7];have cm:∀{a b:Int} {c:Bool},(a==b)=c->(b==a)=c:=λh=>by rw [BEq.comm];exact h
  refine aw (c:=(e.L.length:Int)==(fu e).2) (λh1=> ?_) λh1=>af ?_
  ·refine aw (λh2=>aw (λh3=>aw (λh4=>aw (λh5=>aw (λh6=>aw (λh7=>af ?_) λh7=>af ?_) λh6=>af ?_) λh5=>af ?_) λh4=>af ?_) λh3=>af ?_) λh2=>af ?_
   ·simp only [mq,cm h1,cm h2,cm h3,cm h4,cm h5,cm h6,cm h7,oK,BEq.comm (a:=(fu e).1.hi)]
   ·simp only [mq,cm h1,cm h2,cm h3,cm h4,cm h5,cm h6,cm h7,oK,nq]
   ·simp only [mq,cm h1,cm h2,cm h3,cm h4,cm h5,cm h6,oK,nq]
   ·simp only [mq,cm h1,cm h2,cm h3,cm h4,cm h5,oK,nq]
   ·simp only [mq,cm h1,cm h2,cm h3,cm h4,oK,nq]
   ·simp only [mq,cm h1,cm h2,cm h3,oK,nq]
   ·simp only [mq,cm h1,cm h2,oK,nq,ph]
  ·simp only [mq,cm h1,nq]
end
end Go.Proofs.YtomkobcipaligaaGreatDoor
namespace Go.aA
def Gw{p:Prop}(h:p:=by simp only [ly,KT,h1,h2,h3,h4,h5,cf,cE];rfl):p:=h
def alP{p:Prop}(h:p:=by
 refine aH (by rw [py];exact hx) ?_;rw [zi0,fW h];have e1:(i+1==0)=false:=rfl;rw [e1]at ih;cases hz:i==0 with
 |true=>exact aY (ih _ _)
 |false=>exact bj (ih _ _)):p:=h
def Re{p:Prop}(h:p:=by simp only [ly,KT,h1,h2,h3,h4,h5,h6,cf,cE];rfl):p:=h
def yu{p:Prop}(h:p:=by rw [gK];rfl):p:=h
def QG{p:Prop}(h:p:=by simp only [pE,this,cf];exact fin):p:=h
def ajE{p:Prop}(h:p:=by simp only [ly,KT,h1,h2,h3,cf,cE];rfl):p:=h
def aiX{p:Prop}(h:p:=by simp only [ly,h1,h2,h3,h4,yH,h5,cf,cE];rfl):p:=h
end Go.aA
namespace Go.Proofs.YtomkobcipaligaaGreatDoor
open Go Go.aA
section
variable{l:List OB}{s:SO}
def kF:SO:=⟨false,false,[],0,0⟩
def w5:SO:=⟨false,false,[],0,1⟩
def Ag:SO:=⟨false,false,[],-2147483648,2147483647⟩
def Li:Ev yd [] (0,[J (bU w5)]):=bx aBw aL
def RB:Ev OQ [] (0,[J (bU Ag)]):=bx aA2 aL
def uG(p:Int):Bool:=bif decide (1<=p)then decide (p<=6)else false
def xw(p:Int):Bool:=bif p==7 then true else p==8
def tD(p:Int):Bool:=bif decide (9<=p)then decide (p<=12)else false
def uF(p:Int):Bool:=bif decide (13<=p)then decide (p<=15)else false
def rZ(a b:SO):Bool:=bif !a.ptr then !b.ptr else false
def KT(a b:SO):Bool:=bif rZ a b then true else bif (bif a.ptr then true else a.null)then(bif b.ptr then true else b.null)else false
def yH(a b:SO):Bool:=bif ku a then ku b else false
def ly(p:Int)(a b:SO):SO×Bool:=
 bif uG p then(Ag,rZ a b)else bif xw p then(w5,KT a b)else bif tD p then(w5,rZ a b)else bif uF p then(w5,yH a b)else(kF,false)
def aFW(a b:SO):bK Wv [J (bU a),J (bU b)] (0,[ak (rZ a b),J (bU a),J (bU b)]):=
 bW axx (aw (c:= !a.ptr) (λh=>af (by simp only [rZ,h,cf];rfl)) λh=>af (by simp only [rZ,h,cE];rfl))
def aFV(a b:SO):bK WQ [J (bU a),J (bU b)] (0,[ak (rZ a b),J (bU a),J (bU b)]):=
 bW ayx (aw (c:= !a.ptr) (λh=>af (by simp only [rZ,h,cf];rfl)) λh=>af (by simp only [rZ,h,cE];rfl))
def aNo(p:Int):bK V7 [bE p] (0,[ak (uG p)]):=
 bW awk (aw (λh=>af (by simp only [uG,h,cf])) λh=>af (by simp only [uG,h,cE]))
def aNm(p:Int):bK VJ [bE p] (0,[ak (xw p)]):=
 bW avg (aw (λh=>af (by simp only [xw,h,cf])) λh=>af (by simp only [xw,h,cE]))
def aNl(p:Int):bK VX [bE p] (0,[ak (xw p)]):=
 bW av9 (aw (λh=>af (by simp only [xw,h,cf])) λh=>af (by simp only [xw,h,cE]))
def bt{c:Bool}(h:c=true):(0,[cw])=(0,[ak c]):=by rw [h]
def aNn(p:Int):bK VY [bE p] (0,[ak (uG p)]):=by
 refine bW awa ?_;have q:∀n:Int,1<=n->n<=6->(p==n)=true->uG p=true:=λn h1 h2 h=>by
  rw [eq_of_beq h];simp [uG,h1,h2]
 refine aw (λh=>af (bt (q 1 (by omega) (by omega) h))) λh1=>aw (λh=>af (bt (q 2 (by omega) (by omega) h))) λh2=>aw (λh=>af (bt (q 3 (by omega) (by omega) h))) λh3=>aw (λh=>af (bt (q 4 (by omega) (by omega) h))) λh4=>aw (λh=>af (bt (q 5 (by omega) (by omega) h))) λh5=>af ?_;have:(p==6)=uG p:=by
  simp at h1 h2 h3 h4 h5
  by_cases h:p=6
  ·subst h;rfl
  ·rw [show(p==6)=false by simpa using h];symm;unfold uG;cases ha:decide (1<=p)<;>simp at ha⊢<;>omega
 rw [this]
def aNk(p:Int):bK VC [bE p] (0,[ak (tD p)]):=by
 refine bW au8 ?_;have q:∀n:Int,9<=n->n<=12->(p==n)=true->tD p=true:=λn h1 h2 h=>by
  rw [eq_of_beq h];simp [tD,h1,h2]
 refine aw (λh=>af (bt (q 9 (by omega) (by omega) h))) λh1=>aw (λh=>af (bt (q 10 (by omega) (by omega) h))) λh2=>aw (λh=>af (bt (q 11 (by omega) (by omega) h))) λh3=>af ?_;have:(p==12)=tD p:=by
  simp at h1 h2 h3
  by_cases h:p=12
  ·subst h;rfl
  ·rw [show(p==12)=false by simpa using h];symm;unfold tD;cases ha:decide (9<=p)<;>simp at ha⊢<;>omega
 rw [this]
def aNj(p:Int):bK VB [bE p] (0,[ak (uF p)]):=by
 refine bW au7 ?_;have q:∀n:Int,13<=n->n<=15->(p==n)=true->uF p=true:=λn h1 h2 h=>by
  rw [eq_of_beq h];simp [uF,h1,h2]
 refine aw (λh=>af (bt (q 13 (by omega) (by omega) h))) λh1=>aw (λh=>af (bt (q 14 (by omega) (by omega) h))) λh2=>af ?_;have:(p==15)=uF p:=by
  simp at h1 h2
  by_cases h:p=15
  ·subst h;rfl
  ·rw [show(p==15)=false by simpa using h];symm;unfold uF;cases ha:decide (13<=p)<;>simp at ha⊢<;>omega
 rw [this]
def aOT(p:Int)(a b:SO):Ev WZ [bE p,J (bU a),J (bU b)] (0,[J (bU (ly p a b).1),ak (ly p a b).2]):=by
 have two:∀r,(bif ku a then(0,[J (bU w5),ak (ku b)])else(0,[J (bU w5),aq]))=r->E (λN n=>bO (FU CX EE N yd []) λ_ o7=>bO (FU CX EE N rJ [J (bU a)]) λ_ o8=>bif gB o8 0 then bO (FU CX EE N rJ [J (bU b)]) λ_ o9=>some (0,[J (jF (gC o7 0)),ak (gB o9 0)])else some (0,[J (jF (gC o7 0)),aq])) r:=λr hr=>
  aj Li (aj (AD a) (aw (c:=ku a) (λh=>aj (AD b) (af (by rw [<-hr,h];rfl))) λh=>af (by rw [<-hr,h];rfl)))
 refine bx azv (aj (aFW a b) (aj (aNo p) (aw (c:=uG p) (λh1=> ?_) λh1=>aj (aNm p) (aw (c:=xw p) (λh2=> ?_) λh2=>aw (λh3=>aw (λh4=> ?_) λh4=> ?_) λh3=> ?_))))
 ·exact aj RB (af (by simp only [ly,h1,cf];rfl))
 ·refine aj Li (aw (c:=rZ a b) (λh3=>af (ajE)) λh3=>aw (c:=a.ptr) (λh4=>aw (c:=b.ptr) (λh5=>af (Gw)) λh5=>af (Gw)) λh4=>aw (c:=a.null) (λh5=>aw (c:=b.ptr) (λh6=>af (Re)) λh6=>af (Re)) λh5=>af (Gw))
 ·exact aj Li (af (by simp only [ly,h1,h2,tD,h3,h4,cf,cE];rfl))
 ·refine aw (λh5=>aw (λh6=>two _ ?_) λh6=>af ?_) λh5=>af ?_
  ·simp only [ly,h1,h2,tD,h3,h4,uF,h5,h6,yH,cf,cE];cases ku a<;>rfl
  ·simp only [ly,h1,h2,tD,h3,h4,uF,h5,h6,cf,cE];rfl
  ·simp only [ly,h1,h2,tD,h3,h4,uF,h5,cf,cE];rfl
 ·refine aw (λh5=> ?_) λh5=>af ?_
  ·exfalso;simp at h3 h5;omega
  ·simp only [ly,h1,h2,tD,h3,uF,h5,cE];rfl
def aOS(p:Int)(a b:SO):Ev Xf [bE p,J (bU a),J (bU b)] (0,[J (bU (ly p a b).1),ak (ly p a b).2]):=by
 refine bx aAd (aj (aFV a b) (aj (aNn p) (aw (c:=uG p) (λh1=> ?_) λh1=>aj (aNl p) (aw (c:=xw p) (λh2=> ?_) λh2=>aj (aNk p) (aw (c:=tD p) (λh3=> ?_) λh3=>aj (aNj p) (aw (c:=uF p) (λh4=> ?_) λh4=> ?_))))))
 ·exact af (by simp only [ly,h1,cf];rfl)
 ·refine aw (c:=rZ a b) (λh3=>af (ajE)) λh3=>aw (c:=a.ptr) (λh4=>aw (c:=b.ptr) (λh5=>af (Gw)) λh5=>af (Gw)) λh4=>aw (c:=a.null) (λh5=>aw (c:=b.ptr) (λh6=>af (Re)) λh6=>af (Re)) λh5=>af (Gw)
 ·exact af (by simp only [ly,h1,h2,h3,cf,cE];rfl)
 ·refine aj (AB a) (aw (c:=ku a) (λh5=>aj (AB b) (af ?_)) λh5=>af ?_)
  ·exact aiX
  ·exact aiX
 ·exact af (by simp only [ly,h1,h2,h3,h4,cE];rfl)
def mP(l:List OB):cW->Bool->Int->Int->Int×Int
 | [],_,lo,hi=>(lo,hi)
 |x::xs,true,_,_=>mP l xs false (nz (cQ l x).lo (cQ l x).lo) (imax (cQ l x).hi (cQ l x).hi)
 |x::xs,false,lo,hi=>mP l xs false (nz lo (cQ l x).lo) (imax hi (cQ l x).hi)
def pE(l:List OB)(s:SO):SO×Bool:=bif (bif s.ptr then true else s.null)then(⟨false,false,[],(mP l s.set true 0 0).1,(mP l s.set true 0 0).2⟩,true)else(kF,false)
def zi0{i:Nat}:((i:Int)==0)=(i==0):=by
 cases i with
 |zero=>rfl
 |succ n=>exact eu
def aNb{en:Int}(hs:s.set.length<=mx)(hi:∀x∈s.set,ib x l.length=true):
 Ev UE [J [bJ (cb l),iI en],J (bU s)] (0,[J (sT (bU (pE l s).1) qW),ak (pE l s).2,aa (ints (pE l s).1.set)]):=by
 have h:=fH (m:=s.set.length) (P:=λi=>∀lo hi:Int,bP Et [aa (ints s.set),iI (ln (ints s.set)),iI (i:Int),J [bJ (cb l),iI en],J [aq,aq,.aC 2,iI lo,iI hi],aa []]
  (0,[J [bJ (cb l),iI en],J [aq,aq,.aC 2,iI (mP l (s.set.drop i) (i==0) lo hi).1,iI (mP l (s.set.drop i) (i==0) lo hi).2],aa []]))
  (λlo hi=>bD acL (ax dY (af (yu))))
  λi h ih lo dZ=>bD acL<|br (dx h)<|aH (cN h)<|by
   have hx:=hi s.set[i] (dy h);rw [fK h,ix h hs];rw [show gI [iI s.set[i]] 0=s.set[i]from rfl,show gR [bJ (cb l),iI en] 0=cb l from rfl,mj hx];exact alP
 have h0:=h 0 0;rw [gJ]at h0;have fin:E (λN m=>bO (Et (FU CX EE N) N N [aa (gR (bU s) 2),iI (ln (gR (bU s) 2)),iI 0,J [bJ (cb l),iI en],J [aq,aq,.aC 2,iI 0,iI 0],aa []]) λ_ o2=>some (0,[J (sT (eY (gC o2 1)) qW),cw,aa (gR o2 2)]))
  (0,[J (sT (bU ⟨false,false,[],(mP l s.set true 0 0).1,(mP l s.set true 0 0).2⟩) qW),cw,aa (ints [])]):=aj h0.diag aL
 refine bx asT (xh arF (sM (c:= !s.ptr) (λh1=>sM (c:= !s.null) (λh2=>mF (bj (af ?_))) λh2=>mF (aY ?_)) λh1=>mF (aY ?_)))
 ·have:(bif s.ptr then true else s.null)=false:=by cases hp:s.ptr<;>simp_all
  simp only [pE,this,cE];rfl
 ·have:(bif s.ptr then true else s.null)=true:=by cases hp:s.ptr<;>simp_all
  exact QG
 ·have:(bif s.ptr then true else s.null)=true:=by cases hp:s.ptr<;>simp_all
  exact QG
def aNa(hs:s.set.length<=mx)(hi:∀x∈s.set,ib x l.length=true):
 Ev Xc [bJ (cb l),J (bU s)] (0,[J (sT (bU (pE l s).1) qW),ak (pE l s).2,aa (ints (pE l s).1.set)]):=by
 have h:=fH (m:=s.set.length) (P:=λi=>∀lo hi:Int,bP ES [bJ (cb l),iI (i:Int),J (bU s),J [aq,aq,.aC 2,iI lo,iI hi],aa []]
  (0,[J (bU s),J [aq,aq,.aC 2,iI (mP l (s.set.drop i) (i==0) lo hi).1,iI (mP l (s.set.drop i) (i==0) lo hi).2],aa []]))
  (λlo hi=>bD adU (ax (dY (l:=s.set)) (af (yu))))
  λi h ih lo dZ=>bD adU<|br (dx (l:=s.set) h)<|aH (cN (l:=s.set) h)<|by
   have hx:=hi s.set[i] (dy h);rw [show gR (bU s) 2=ints s.set from rfl,fK h,ix h hs];rw [show gI [iI s.set[i]] 0=s.set[i]from rfl,mj hx];exact alP
 have h0:=h 0 0;rw [gJ]at h0;have fin:E (λN m=>bO (ES (FU CX EE N) N N [bJ (cb l),iI 0,J (bU s),J [aq,aq,.aC 2,iI 0,iI 0],aa []]) λ_ o2=>some (0,[J (sT (eY (gC o2 1)) qW),cw,aa (gR o2 2)]))
  (0,[J (sT (bU ⟨false,false,[],(mP l s.set true 0 0).1,(mP l s.set true 0 0).2⟩) qW),cw,aa (ints [])]):=aj h0.diag aL
 refine bx az4 (xh ayq (sM (c:= !s.ptr) (λh1=>sM (c:= !s.null) (λh2=>mF (bj (af ?_))) λh2=>mF (aY ?_)) λh1=>mF (aY ?_)))
 ·have:(bif s.ptr then true else s.null)=false:=by cases hp:s.ptr<;>simp_all
  simp only [pE,this,cE];rfl
 ·have:(bif s.ptr then true else s.null)=true:=by cases hp:s.ptr<;>simp_all
  exact QG
 ·have:(bif s.ptr then true else s.null)=true:=by cases hp:s.ptr<;>simp_all
  exact QG
end
end Go.Proofs.YtomkobcipaligaaGreatDoor
namespace Go.aA
def Gg{p:Prop}(h:p:=by simp only [mx];omega):p:=h
end Go.aA
namespace Go.aA
def qJ:=@Iff.rfl
end Go.aA
namespace Go.Proofs.YtomkobcipaligaaGreatDoor
open Go Go.aA
section
variable{p:Int}{l:List OB}{us vs:List SO}{n:Nat}{a a' b b' s:SO}{m:cW}
structure SO.Rel(s t:SO):Prop where
 ptr:s.ptr=t.ptr
 null:s.null=t.null
 lo:s.lo=t.lo
 hi:s.hi=t.hi
 set:∀x,x∈s.set ↔ x∈t.set
structure SO.Inv(n:Nat)(s:SO):Prop where
 nd:s.set.Nodup
 jz:∀x∈s.set,ib x n=true
structure RI(n:Nat)(s t:SO):Prop where
 l:s.Inv n
 r:t.Inv n
 rel:s.Rel t
def jv{x:Int}:ib x n=true ↔ 0<=x∧x<n:=by simp [ib]
def Jl:∀(n:Nat) (l:cW),l.Nodup->(∀x∈l,ib x n=true)->l.length<=n
 |0,l,_,h=>by
  cases l with
  |nil=>simp
  |cons x xs=>have:=jv.1 (h x (by simp));omega
 |n+1,l,hd,h=>by
  have hle:l.length<=(l.filter λx=>x != (n:Int)).length +1:=by
   clear h
   induction l with
   |nil=>simp
   |cons x xs ih=>
    rw [CB]at hd
    by_cases hx:x=(n:Int)
    ·subst hx;have:(xs.filter λx=>x != (n:Int))=xs:=List.filter_eq_self.2 λy hy=>by
      simp;rintro rfl;exact hd.1 hy
     rw [List.filter_cons_of_neg (by simp),this];simp
    ·rw [List.filter_cons_of_pos (JY)];have:=ih hd.2;simp only [mf];omega
  have:=Jl n (l.filter λx=>x != (n:Int)) (hd.filter _) λx hx=>by
   rw [List.mem_filter]at hx;have h1:=jv.1 (h x hx.1);have h2:x≠(n:Int):=by simpa using hx.2
   exact jv.2 ⟨h1.1,by omega⟩
  omega
def SO.Inv.len(h:s.Inv n):s.set.length<=n:=Jl n _ h.nd h.jz
structure OL(l:List OB):Prop where
 len:l.length<=2048
 emp:∀o∈l,o.ptr=false->o.set=[]
 nd:∀o∈l,o.set.Nodup
 jz:∀o∈l,∀x∈o.set,ib x l.length=true
def OL.ok(h:OL l){o:OB}(ho:o∈l):o.Ok:=by
 have:=Jl _ _ (h.nd o ho) (h.jz o ho);have:=h.len;show o.set.length<=mx;exact Gg
def qH{i:Int}(h:ib i l.length=true):cQ l i∈l:=by
 have:=jv.1 h;have h2:i.toNat<l.length:=by omega
 simp only [cQ,lN,dD h2,pb];exact dy h2
def SO.Inv.le(h:s.Inv n)(hn:n<=2048):s.set.length<=mx:=by have:=h.len;show s.set.length<=1048576;omega
inductive RL(n:Nat):List SO->List SO->Prop
 |nil:RL n [] []
 |cons{a b:SO}{us vs:List SO}(h:RI n a b)(t:RL n us vs):RL n (a::us) (b::vs)
def RL.len(h:RL n us vs):us.length=vs.length:=by
 induction h with
 |nil=>rfl
 |cons _ _ ih=>simp [ih]
def RL.snoc(h:RL n us vs)(Bx:RI n a b):RL n (us++[a]) (vs++[b]):=by
 induction h with
 |nil=>exact .cons Bx .nil
 |cons h _ ih=>exact .cons h ih
def RL.at{n:Nat}{us vs:List SO}(h:RL n us vs){i:Nat}(ha:i<us.length)(hb:i<vs.length):RI n us[i] vs[i]:=by
 induction h generalizing i with
 |nil=>simp at ha
 |cons h _ ih=>
  cases i with
  |zero=>exact h
  |succ i=>exact ih (by simpa using ha) (J0)
def Cz{l:cW}{n:Int}:dN l n=true ↔ n∈l:=by simp [dN]
def P4{l:cW}(h:∀x,x∈l ↔ x∈m)(p:Int->Bool):l.any p=m.any p:=by
 rw [FB,Po,Po];exact⟨λ⟨x,h1,h2⟩=>⟨x,(h x).1 h1,h2⟩,λ⟨x,h1,h2⟩=>⟨x,(h x).2 h1,h2⟩⟩
def aCt{l:cW}(h:∀x,x∈l ↔ x∈m)(b:cW):xk l b=xk m b:=by unfold xk;rw [P4 h]
def SO.Rel.ku{s t:SO}(h:s.Rel t):ku s=Go.Proofs.YtomkobcipaligaaGreatDoor.ku t:=by unfold Go.Proofs.YtomkobcipaligaaGreatDoor.ku;rw [h.ptr,h.lo,h.hi]
def SO.Rel.iW{s t:SO}(h:s.Rel t)(o:OB):iW s o=Go.Proofs.YtomkobcipaligaaGreatDoor.iW t o:=by unfold Go.Proofs.YtomkobcipaligaaGreatDoor.iW;rw [h.ptr,h.null,h.lo,h.hi,aCt h.set]
def aDj(ha:a.Rel a')(hb:b.Rel b'):ly p a b=ly p a' b':=by
 have h1:rZ a b=rZ a' b':=by unfold rZ;rw [ha.ptr,hb.ptr]
 unfold ly KT yH;rw [h1,ha.ptr,hb.ptr,ha.null,hb.null,ha.ku,hb.ku]
def PZ(h:s.set=[]):s.Inv n:=⟨by rw [h];exact wL,λx hx=>by rw [h]at hx;simp at hx⟩
def rel_refl(s:SO):s.Rel s:=⟨rfl,rfl,rfl,rfl,λ_=>qJ⟩
def vj(h:s.set=[]):RI n s s:=⟨PZ h,PZ h,rel_refl s⟩
def aDk:RI n (ly p a b).1 (ly p a b).1 :=by
 refine vj ?_;unfold ly;cases uG p<;>cases xw p<;>cases tD p<;>cases uF p<;>rfl
def agx(l:List OB):∀(xs:cW) (lo hi:Int),(∀v,(mP l xs false lo hi).1 <=v ↔ lo<=v∨∃x∈xs,(cQ l x).lo <=v)∧(∀v,v<=(mP l xs false lo hi).2 ↔ v<=hi∨∃x∈xs,v<=(cQ l x).hi)
 | [],lo,hi=>by simp [mP]
 |x::xs,lo,hi=>by
  obtain⟨h1,h2⟩:=agx l xs (nz lo (cQ l x).lo) (imax hi (cQ l x).hi);constructor
  ·intro v;rw [mP,h1];have:nz lo (cQ l x).lo <=v ↔ lo<=v∨(cQ l x).lo <=v:=by unfold nz;split<;>omega
   rw [this];simp [or_assoc]
  ·intro v;rw [mP,h2];have:v<=imax hi (cQ l x).hi ↔ v<=hi∨v<=(cQ l x).hi :=by unfold imax;split<;>omega
   rw [this];simp [or_assoc]
def ahn(l:List OB)(xs:cW)(h:xs≠ []):(∀v,(mP l xs true 0 0).1 <=v ↔∃x∈xs,(cQ l x).lo <=v)∧(∀v,v<=(mP l xs true 0 0).2 ↔∃x∈xs,v<=(cQ l x).hi):=by
 cases xs with
 |nil=>exact absurd rfl h
 |cons x xs=>
  obtain⟨h1,h2⟩:=agx l xs (nz (cQ l x).lo (cQ l x).lo) (imax (cQ l x).hi (cQ l x).hi);have e1:nz (cQ l x).lo (cQ l x).lo =(cQ l x).lo :=by unfold nz;split<;>rfl
  have e2:imax (cQ l x).hi (cQ l x).hi =(cQ l x).hi :=by unfold imax;split<;>rfl
  rw [e1,e2]at h1 h2;constructor
  ·intro v;rw [mP,e1,e2,h1];simp
  ·intro v;rw [mP,e1,e2,h2];simp
def aDI{xs ys:cW}(h:∀x,x∈xs ↔ x∈ys):mP l xs true 0 0=mP l ys true 0 0:=by
 by_cases hx:xs=[]
 ·have:ys=[]:=by
   cases ys with
   |nil=>rfl
   |cons y ys=>have:=(h y).2 (by simp);rw [hx]at this;simp at this
  rw [hx,this]
 ·have hy:ys≠ []:=by
   intro hy;cases xs with
   |nil=>exact hx rfl
   |cons x xs=>have:=(h x).1 (by simp);rw [hy]at this;simp at this
  obtain⟨a1,a2⟩:=ahn l xs hx;obtain⟨b1,b2⟩:=ahn l ys hy;have e:∀(p:Int->Prop),(∃x∈xs,p x) ↔∃x∈ys,p x:=λp=>⟨λ⟨x,q,r⟩=>⟨x,(h x).1 q,r⟩,λ⟨x,q,r⟩=>⟨x,(h x).2 q,r⟩⟩;refine Prod.ext ?_ ?_
  ·refine Int.le_antisymm ?_ ?_
   ·rw [a1,e λx=>(cQ l x).lo <=_,<-b1];exact sK _
   ·rw [b1,<-e λx=>(cQ l x).lo <=_,<-a1];exact sK _
  ·refine Int.le_antisymm ?_ ?_
   ·rw [b2,<-e λx=>_<=(cQ l x).hi,<-a2];exact sK _
   ·rw [a2,e λx=>_<=(cQ l x).hi,<-b2];exact sK _
def aCD{t:SO}(h:s.Rel t):pE l s=pE l t:=by
 unfold pE;rw [h.ptr,h.null,aDI h.set]
def aCC:(pE l s).1.set =[]:=by
 unfold pE;cases(bif s.ptr then true else s.null)<;>rfl
def oR(a b:SO):Bool:=bif !a.ptr&& !b.ptr then true else(a.ptr||a.null)&&(b.ptr||b.null)
structure y9(a b s:SO):Prop where
 ptr:s.ptr=(a.ptr||b.ptr)
 null:s.null=false
 lo:s.lo=bif a.ptr||b.ptr then 0 else nz a.lo b.lo
 hi:s.hi=bif a.ptr||b.ptr then 0 else imax a.hi b.hi
 set:∀x,x∈s.set ↔ (a.ptr=true∧x∈a.set)∨(b.ptr=true∧x∈b.set)
def y9.rel{s':SO}(ha:a.Rel a')(hb:b.Rel b')(h:y9 a b s)(h':y9 a' b' s'):s.Rel s':=
 ⟨by rw [h.ptr,h'.ptr,ha.ptr,hb.ptr],by rw [h.null,h'.null],by rw [h.lo,h'.lo,ha.ptr,hb.ptr,ha.lo,hb.lo],by rw [h.hi,h'.hi,ha.ptr,hb.ptr,ha.hi,hb.hi],λx=>by rw [h.set,h'.set,ha.ptr,hb.ptr,ha.set,hb.set]⟩
def aC9(ha:a.Rel a')(hb:b.Rel b'):oR a b=oR a' b':=by unfold oR;rw [ha.ptr,hb.ptr,ha.null,hb.null]
def y9.jz{n:Nat}{a b s:SO}(ha:a.Inv n)(hb:b.Inv n)(h:y9 a b s):∀x∈s.set,ib x n=true:=λx hx=>by
 rcases(h.set x).1 hx with⟨_,h⟩|⟨_,h⟩
 ·exact ha.jz x h
 ·exact hb.jz x h
end
end Go.Proofs.YtomkobcipaligaaGreatDoor
namespace Go.aA
def Aj{p:Prop}(h:p:=by rw [hp];rfl):p:=h
def ZA{p:Prop}(h:p:=by rw [Cz.2 hm]at hi;cases hi):p:=h
def ajf{p:Prop}(h:p:=by cases h1:a.ptr<;>cases h2:a.null<;>simp_all):p:=h
def aje{p:Prop}(h:p:=by cases h1:b.ptr<;>cases h2:b.null<;>simp_all):p:=h
def Ql{p:Prop}(h:p:=by rw [hp,hq];rfl):p:=h
def Zi{p:Prop}(h:p:=by rw [ea']at h;cases h):p:=h
def Zg{p:Prop}(h:p:=by
 rw [gJ]at this;exact this):p:=h
end Go.aA
namespace Go.Proofs.YtomkobcipaligaaGreatDoor
open Go Go.aA
section
variable{i:Int}{n:Nat}{c:SO}{rows:aW}{acc l:cW}
def inV(n:Int)(hl:l.length<=mx):Ev OO [iI n,aa (ints l)] (0,[ak (dN l n),aa (ints l)]):=by
 have h:=pq (l:=l) (p:=(·==n)) (hit:=(0,[cw,aa (ints l)])) (done:=(1,[aa (ints l)])) (LF:=λi N m=>NY (FU CX EE N) N m [iI n,iI (i:Int),aa (ints l)])
  (bD aeE (ax dY aL))
  λi hi r h1 h2=>bD aeE<|br (dx hi)<|aH (cN hi)<|aH (CL)<|ZR
 refine bx aAV (aj h.diag ?_);unfold dN;cases l.any (·==n)<;>exact aL
def lT:cW->cW->cW
 |acc,[]=>acc
 |acc,x::xs=>lT (bif dN acc x then acc else acc++[x]) xs
def YB:∀(acc xs:cW) (y:Int),y∈lT acc xs ↔ y∈acc∨y∈xs
 |acc,[],y=>by simp [lT]
 |acc,x::xs,y=>by
  rw [lT,YB];cases h:dN acc x with
  |true=>
   have:=Cz.1 h;simp only [cf,gX];constructor
   ·rintro(h|h)
    ·exact .inl h
    ·exact .inr (.inr h)
   ·rintro(h|rfl|h)
    ·exact .inl h
    ·exact .inl this
    ·exact .inr h
  |false=>simp only [cE,j7,gX,PK,or_false];exact or_assoc
def Je{x:Int}(h:l.Nodup)(hx:x∉l):(l++[x]).Nodup :=by
 rw [List.nodup_append];exact⟨h,by simp,λa ha b hb=>by simp at hb;subst hb;rintro rfl;exact hx ha⟩
def XH:∀(acc xs:cW),acc.Nodup->(lT acc xs).Nodup
 |acc,[],h=>h
 |acc,x::xs,h=>by
  rw [lT];refine XH _ xs ?_;cases hi:dN acc x with
  |true=>exact h
  |false=>exact Je h λhm=>ZA
def ahI{xs:cW}(h1:∀x∈acc,ib x n=true)(h2:∀x∈xs,ib x n=true):∀x∈lT acc xs,ib x n=true:=λx hx=>by
 rcases(YB acc xs x).1 hx with h|h
 ·exact h1 x h
 ·exact h2 x h
abbrev z2:bl:=[aq,aq,.aC 2,iI 0,iI 0]
abbrev z3:bl:=[aq,aq,.aC 3,iI 0,iI 0]
abbrev z4:bl:=[aq,aq,.aC 4,iI 0,iI 0]
abbrev p2:bl:=[cw,aq,.aC 2,iI 0,iI 0]
abbrev p4:bl:=[cw,aq,.aC 4,iI 0,iI 0]
def aEO(hn:n<=2048)(h1:ib i rows.length=true)(h2:gA rows i.toNat=bU c)(hc:c.Inv n)(x:bl)(hx:sT (eY x) pF=x):
 ∀acc:cW,acc.Nodup->(∀y∈acc,ib y n=true)->bP BG [iI i,iI 0,J x,eC rows,aa (ints acc)]
  (0,[J x,eC rows,aa (ints (bif c.ptr then lT acc c.set else acc))]):=by
 have h3:decide (i.toNat<rows.length)=true:=by have:=jv.1 h1;simp;omega
 have hJ:∀k:Int,bK UZ [iI i,iI k,eC rows] (bif c.ptr then bif decide (k<(c.set.length:Int))then(0,[eC rows])else(1,[eC rows])else(1,[eC rows])):=λk=>by
  refine bW atm (aH h1 (aH h3 ?_));rw [h2];refine aw (c:=c.ptr) (λhp=>aH h1 (aH h3 ?_)) λhp=>af (Aj);rw [show gR (bU c) 2=ints c.set from rfl,dB];exact aw (λhq=>af (Ql)) λhq=>af (Ql)
 cases hp:c.ptr with
 |false=>
  intro acc _ _;have hJ:=hJ 0;rw [hp]at hJ;exact bD UF (aj hJ (bj (af (by rw [hx];rfl))))
 |true=>
  have hl:=hc.le hn;have h:=fH (m:=c.set.length) (P:=λk=>∀acc:cW,acc.Nodup->(∀y∈acc,ib y n=true)->bP BG [iI i,iI (k:Int),J x,eC rows,aa (ints acc)]
   (0,[J x,eC rows,aa (ints (lT acc (c.set.drop k)))]))
   (λacc _ _=>by
     have hJ:=hJ (c.set.length:Int);rw [hp,show decide ((c.set.length:Int)<(c.set.length:Int))=false by simp]at hJ;exact bD UF (aj hJ (bj (af (by rw [hx,gK];rfl)))))
   λk hk ih acc ha hr=>by
    have hJ:=hJ (k:Int);rw [hp,show decide ((k:Int)<(c.set.length:Int))=true by simpa using hk]at hJ;have hla:acc.length<=n:=Jl n _ ha hr;refine bD UF (aj hJ (aY ?_));rw [show gR (bif true then bif true then(0,[eC rows])else(1,[eC rows])else(1,[eC rows])).2 0=rows from rfl,hx,h2,show gR (bU c) 2=ints c.set from rfl,fK hk,ix hk hl];refine aH h1 (aH h3 (aH (cN hk) (aj (inV c.set[k] (by show acc.length<=1048576;omega)) ?_)));rw [fW hk,lT];cases hi:dN acc c.set[k]with
    |true=>exact bj (ih acc ha hr)
    |false=>
     refine aY (aH h1 (aH h3 (aH (cN hk) (aH ?_ ?_))))
     ·rw [show gR (0,[aq,aa (ints acc)]).2 1=ints acc from rfl,ey];simp;omega
     ·have:=ih (acc++[c.set[k]]) (Je ha λhm=>ZA) λy hy=>by
       rw [j7]at hy;rcases hy with hy|hy
       ·exact hr y hy
       ·simp at hy;subst hy;exact hc.jz _ (dy hk)
      have e:ints (acc++[c.set[k]])=ints acc++[[iI c.set[k]]]:=by simp
      rw [e]at this;exact this
  intro acc ha hr;have:=h acc ha hr;exact Zg
def Ju(hn:n<=2048)(zF:decide (i<2)=true)(h1:ib i rows.length=true)(h2:gA rows i.toNat=bU c)(hc:c.Inv n)(ha:acc.Nodup)(hr:∀y∈acc,ib y n=true){r:UO}
 (oC:(!c.ptr&& !c.null)=true->(0,[aq,J z3,J p4,eC rows,aa [],aa (ints acc)])=r)
 (aNZ:(!c.ptr&& !c.null)=false->bP BP [iI (bw (i+1)),J z3,J p4,eC rows,aa [],aa (ints (bif c.ptr then lT acc c.set else acc))] r):
 bP BP [iI i,J z3,J p4,eC rows,aa [],aa (ints acc)] r:=by
 have h3:decide (i.toNat<rows.length)=true:=by have:=jv.1 h1;simp;omega
 refine bD adW (br zF (xh aua (F4 h1 (F4 h3 ?_))));rw [h2];have go:(!c.ptr&& !c.null)=false->E (λN m=>bO (BG (FU CX EE N) N N [iI i,iI 0,J p2,eC rows,aa (ints acc)]) λ_ o5=>BP (FU CX EE N) N m [iI (bw (i+1)),J z3,J (sT (eY (gC o5 0)) nA),eC (gR o5 1),aa [],aa (gR o5 2)]) r:=λh=>
  aj (aEO hn h1 h2 hc p2 rfl acc ha hr).diag (aNZ h)
 refine sM (c:= !c.ptr) (λhp=>F4 h1 (F4 h3 (sM (c:= !c.null) (λhq=>mF (bj (af (oC (Ql))))) λhq=>mF (aY (go (Ql)))))) λhp=>mF (aY (go (Aj)))
def aF8(hn:n<=2048){a b:SO}(ha:a.Inv n)(hb:b.Inv n):∃s,Ev Ot [J (bU a),J (bU b)] (0,[J (bU s),ak (oR a b)])∧(oR a b=true->s.Inv n∧y9 a b s):=by
 have hJ:bK Wm [J (bU a),J (bU b)] (0,[ak (a.ptr||b.ptr),J (bU a),J (bU b)]):=
  bW axo (aw (c:=a.ptr) (λh=>af (gv)) λh=>af (gv))
 have hnp:(!a.ptr&& !b.ptr)= !(a.ptr||b.ptr):=by cases a.ptr<;>cases b.ptr<;>rfl
 cases hp:(a.ptr||b.ptr)with
 |false=>
  rw [hp]at hJ;have e:oR a b=true:=by unfold oR;rw [hnp,hp];rfl
  refine⟨⟨false,false,[],nz a.lo b.lo,imax a.hi b.hi⟩,bx afu (aj hJ (bj (af (by rw [e];rfl)))),λ_=>⟨PZ rfl,⟨hp.symm,rfl,Aj,Aj,λx=> ?_⟩⟩⟩;rw [Bool.or_eq_false_iff]at hp;simp [hp.1,hp.2]
 |true=>
  rw [hp]at hJ;have e:oR a b=((a.ptr||a.null)&&(b.ptr||b.null)):=by unfold oR;rw [hnp,hp];rfl
  have frm:∀o:UO,bP BP [iI 0,J z3,J p4,eC [bU a,bU b],aa [],aa []] o->∀r,E (λN m=>bif Nat.beq o.1 0 then some (0,[J (sT (jF (gC o.2 1)) [(2,aa (gR o.2 4))]),ak (gB o.2 0)])else some (0,[J (sT (jF (gC o.2 1)) [(2,aa (gR o.2 4))]),cw])) r->Ev Ot [J (bU a),J (bU b)] r:=λo ho r hr=>
   bx afu (aj hJ (aY (aj ho.diag hr)))
  cases ea:(a.ptr||a.null)with
  |false=>
   have ea':(!a.ptr&& !a.null)=true:=ajf;refine⟨kF,frm _ (Ju hn rfl rfl (rfl:gA [bU a,bU b] 0=bU a) ha wL (by simp) (λ_=>rfl) λh=>Zi) _ (aY (af (by rw [e,ea];rfl))),λh=>by rw [e,ea]at h;cases h⟩
  |true=>
   have ea':(!a.ptr&& !a.null)=false:=ajf;have zj:(bif a.ptr then lT [] a.set else []).Nodup :=by cases a.ptr;exact wL;exact XH _ _ wL
   have S2:∀y∈(bif a.ptr then lT [] a.set else []),ib y n=true:=by cases a.ptr;simp;exact ahI (by simp) ha.jz
   cases eb:(b.ptr||b.null)with
   |false=>
    have eb':(!b.ptr&& !b.null)=true:=aje;refine⟨kF,frm _ (Ju hn rfl rfl (rfl:gA [bU a,bU b] 0=bU a) ha wL (by simp) (λh=>Zi) λ_=>Ju (i:=1) hn rfl rfl (rfl:gA [bU a,bU b] 1=bU b) hb zj S2 (λ_=>rfl) λh=>by rw [eb']at h;cases h) _ (aY (af (by rw [e,ea,eb];rfl))),λh=>by rw [e,ea,eb]at h;cases h⟩
   |true=>
    have eb':(!b.ptr&& !b.null)=false:=aje;have nd2:(bif b.ptr then lT (bif a.ptr then lT [] a.set else []) b.set else(bif a.ptr then lT [] a.set else [])).Nodup :=by cases b.ptr;exact zj;exact XH _ _ zj
    have rg2:∀y∈(bif b.ptr then lT (bif a.ptr then lT [] a.set else []) b.set else(bif a.ptr then lT [] a.set else [])),ib y n=true:=by cases b.ptr;exact S2;exact ahI S2 hb.jz
    refine⟨⟨true,false,bif b.ptr then lT (bif a.ptr then lT [] a.set else []) b.set else(bif a.ptr then lT [] a.set else []),0,0⟩,frm _ (Ju hn rfl rfl (rfl:gA [bU a,bU b] 0=bU a) ha wL (by simp) (λh=>Zi) λ_=>Ju (i:=1) hn rfl rfl (rfl:gA [bU a,bU b] 1=bU b) hb zj S2 (λh=>by rw [eb']at h;cases h) λ_=>bD adW (bj aL)) _ (bj (af (by rw [e,ea,eb];rfl))),λ_=>⟨⟨nd2,rg2⟩,⟨hp.symm,rfl,Aj,Aj,λx=> ?_⟩⟩⟩;show x∈(bif b.ptr then lT (bif a.ptr then lT [] a.set else []) b.set else(bif a.ptr then lT [] a.set else [])) ↔ _;cases a.ptr<;>cases b.ptr<;>simp [YB]
end
end Go.Proofs.YtomkobcipaligaaGreatDoor
namespace Go.aA
def w9{p:Prop}(h:p:=by rw [ey];simp;omega):p:=h
def akQ{p:Prop}(h:p:=by
 match xs,hi with
 | [x],_=>exact⟨x,rfl⟩
 | [],h=>simp at h;omega
 |_::_::_,h=>simp at h;omega):p:=h
def Zn{p:Prop}(h:p:=by rw [uz];exact dY):p:=h
def F8{p:Prop}(h:p:=by rw [h1,h2];rfl):p:=h
end Go.aA
namespace Go.Proofs.YtomkobcipaligaaGreatDoor
open Go Go.aA
section
variable{e:CE}{la lb ls xs:List SO}{i:Nat}
theorem aE7(l:aW)(hl:l.length<=1000):E (λN _=>AM Fb (FU CX EE N BD) (FU CX EE N BC) (FU CX EE N Ig) [dQ l]) (0,[dQ l]):=by
 cases l with
 |nil=>
  obtain⟨B,h1⟩:Ev BD [] (0,[dQ []]):=bx arH aL;obtain⟨C,h2⟩:Ev BC [] (0,[dQ []]):=bx arG aL;refine⟨B+C,λN n hN _=> ?_⟩;have h1:FU CX EE N BD []=_:=h1 N N (by omega) (by omega);have h2:FU CX EE N BC []=_:=h2 N N (by omega) (by omega);show AM Fb (FU CX EE N BD) (FU CX EE N BC) (FU CX EE N Ig) [dQ []]=_;show(bif uw Fb (FU CX EE N BD [])&&uw Fb (FU CX EE N BC [])then some (0,[dQ []])else none)=_;exact F8
 |cons x xs=>
  have h:Ev Ig [dQ (x::xs)] (0,[dQ (x::xs)]):=bx atv (bj (aH (by simp at hl⊢;omega) aL));exact h
theorem aE8(l:aW)(hl:l.length<=100000):E (λN _=>AM uj (FU CX EE N Ez) (FU CX EE N Ey) (FU CX EE N M9) [aa l]) (0,[aa l]):=by
 cases l with
 |nil=>
  obtain⟨B,h1⟩:Ev Ez [] (0,[aa []]):=bx ash aL;obtain⟨C,h2⟩:Ev Ey [] (0,[aa []]):=bx asg aL;refine⟨B+C,λN n hN _=> ?_⟩;have h1:FU CX EE N Ez []=_:=h1 N N (by omega) (by omega);have h2:FU CX EE N Ey []=_:=h2 N N (by omega) (by omega);show(bif uw uj (FU CX EE N Ez [])&&uw uj (FU CX EE N Ey [])then some (0,[aa []])else none)=_;exact F8
 |cons x xs=>
  have h:Ev M9 [aa (x::xs)] (0,[aa (x::xs)]):=bx aui (bj (aH (by simp at hl⊢;omega) aL));exact h
def kO:Prop:=∀{n:Nat},n<=2048->∀{a b:SO},a.Inv n->b.Inv n->∃s,Ev IU [J (bU a),J (bU b)] (0,[J (sT (bU s) qW),ak (oR a b),aa (ints s.set)])∧(oR a b=true->s.Inv n∧y9 a b s)
abbrev nS(l:List OB)(en:Int):AV:= J [bJ (cb l),iI en]
abbrev jZ(l:List OB)(ls:List SO)(en:Int):AV:= J [bJ (cb l),eC (ls.map bU),iI en]
theorem Lb(e:CE):gI (aP e) 0=e.kind:=Qt
theorem aph(e:CE):gI (aP e) 1=e.op:=Qt
theorem abT(e:CE):gI (aP e) 3=e.O:=Qt
def pY(e:CE)(i:Nat)(ls xs:List SO):List SO:=bif e.kind==10 then bif (i:Int)==1 then ls++[xs.getD 0 kF]else ls else ls
theorem arC(hi:i=xs.length)(hl:ls.length<=900):bK Uf [dQ (ls.map bU),iI (i:Int),dQ (ls.map bU),J (aP e),dQ (xs.map bU)]
 (0,[dQ ((pY e i ls xs).map bU),J (aP e),dQ (xs.map bU)]):=by
 refine bW arj ?_;rw [Lb,eQ];refine aw (λh1=>aw (λh2=> ?_) λh2=>af ?_) λh1=>af ?_
 ·have h3:(i:Int)=1:=by simpa using h2
  obtain⟨x,hx⟩:∃x,xs=[x]:=akQ;subst hx;refine aj (aE7 _ (eu)) (aH rfl (aH rfl (aH ?_ (af ?_))))
  ·rw [show gR (0,[dQ (ls.map bU)]).2 0=ls.map bU from rfl,ey];simp;omega
  ·simp only [pY,h1,h2,cf,oi];rfl
 ·simp only [pY,h1,h2,cf,cE]
 ·simp only [pY,h1,cE]
theorem arR{l:List OB}{en:Int}(hi:i=xs.length)(hl:ls.length<=900):bK Wh [iI (i:Int),jZ l ls en,J (aP e),eC (xs.map bU),jZ l ls en]
 (0,[jZ l ls en,J (aP e),eC (xs.map bU),jZ l (pY e i ls xs) en]):=by
 refine bW axj ?_;rw [Lb,eQ];refine aw (λh1=>aw (λh2=> ?_) λh2=>af ?_) λh1=>af ?_
 ·have h3:(i:Int)=1:=by simpa using h2
  obtain⟨x,hx⟩:∃x,xs=[x]:=akQ;subst hx;refine aH ?_ (aH rfl (aH rfl (aH ?_ (af ?_))))
  ·show decide ((0+(ls.map bU).length)*48<=140737488355328)=true;rw [ey];simp;omega
  ·show decide ((([]++ls.map bU).length +1)*48<=140737488355328)=true;rw [mE,ey];simp;omega
  ·simp only [pY,h1,h2,cf,jZ,oi];rfl
 ·simp only [pY,h1,h2,cf,cE];rfl
 ·simp only [pY,h1,cE];rfl
theorem alg:∀{l:List CE} {y:CE},y∈l->nn y<=nQ l
 |x::xs,y,h=>by
  simp only [nQ];rcases gX.1 h with rfl|h
  ·omega
  ·have:=alg h;omega
section
variable {l:List OB} (ol:OL l) (en:Int)
inductive xP(n:Nat):CE->Prop
 |mk(e:CE)(h:(e.kind==2||e.kind==3||e.kind==12)=true->ib e.O n=true)(hk:∀y∈e.L,xP n y):xP n e
def Z6(l:List OB)(en:Int)(e:CE):Prop:=∀la lb:List SO,RL l.length la lb->la.length+nn e<=900->∃s t b,
 Ev Is [nS l en,J (aP e),dQ (la.map bU)] (0,[J (bU s),ak b])∧Ev Jo [jZ l lb en,J (aP e)] (0,[J (bU t),ak b])∧(b=true->RI l.length s t∧xP l.length e)
theorem aFc:(pY e i ls xs).length <=ls.length+1:=by
 unfold pY;cases e.kind==10<;>cases(i:Int)==1<;>simp
theorem aGI{n:Nat}{ys:List SO}(h:RL n la lb)(hx:RL n xs ys)(hi:i=xs.length):RL n (pY e i la xs) (pY e i lb ys):=by
 unfold pY;cases e.kind==10 with
 |false=>exact h
 |true=>
  cases h2:(i:Int)==1 with
  |false=>exact h
  |true=>
   have h3:(i:Int)=1:=qc;have hl:=hx.len;have:=hx.at (i:=0) (by omega) (by omega);refine h.snoc ?_;rw [lN,lN,dD (by omega),dD (by omega)];exact this
theorem elems(bz:e.Ok)(hn:e.L.length<=1000)(ih:∀y∈e.L,Z6 l en y)(Bx:RL l.length la lb)(hd:la.length+nn e<=900):
 (∃xs ys,RL l.length xs ys∧xs.length=e.L.length∧(∀y∈e.L,xP l.length y)∧
   bP wD [dQ (la.map bU),aT (e.L.map aP),iI (ln (e.L.map aP)),iI 0,nS l en,J (aP e),J z4,dQ [],aa []]
    (1,[nS l en,J (aP e),J z4,dQ (xs.map bU),aa []])∧
   bP wG [iI 0,jZ l lb en,J (aP e),J z4,eC [],aa []]
    (1,[jZ l lb en,J (aP e),J z4,eC (ys.map bU),aa []]))∨
 (bP wD [dQ (la.map bU),aT (e.L.map aP),iI (ln (e.L.map aP)),iI 0,nS l en,J (aP e),J z4,dQ [],aa []]
     (0,[aq,nS l en,J (aP e),J z3,aa []])∧
   bP wG [iI 0,jZ l lb en,J (aP e),J z4,eC [],aa []]
    (0,[aq,jZ l lb en,J (aP e),J z3,aa []])):=by
 have L3:=Bx.len;have h:=fH (m:=e.L.length) (P:=λi=>∀us vs,RL l.length us vs->us.length=i->
  (∃xs ys,RL l.length xs ys∧xs.length=e.L.length∧(∀y∈e.L.drop i,xP l.length y)∧
    bP wD [dQ (la.map bU),aT (e.L.map aP),iI (ln (e.L.map aP)),iI (i:Int),nS l en,J (aP e),J z4,dQ (us.map bU),aa []]
     (1,[nS l en,J (aP e),J z4,dQ (xs.map bU),aa []])∧
    bP wG [iI (i:Int),jZ l lb en,J (aP e),J z4,eC (vs.map bU),aa []]
     (1,[jZ l lb en,J (aP e),J z4,eC (ys.map bU),aa []]))∨
  (bP wD [dQ (la.map bU),aT (e.L.map aP),iI (ln (e.L.map aP)),iI (i:Int),nS l en,J (aP e),J z4,dQ (us.map bU),aa []]
      (0,[aq,nS l en,J (aP e),J z3,aa []])∧
    bP wG [iI (i:Int),jZ l lb en,J (aP e),J z4,eC (vs.map bU),aa []]
     (0,[aq,jZ l lb en,J (aP e),J z3,aa []])))
  (λus vs LQ hu=> .inl ⟨us,vs,LQ,hu,by rw [gK];simp,bD ac0 (ax dY (af (by rw [eQ];rfl))),
    bD aez (ax (Zn) (af (by rw [eQ];rfl)))⟩)
  λi hi fr us vs LQ hu=>by
   have zu:=LQ.len;have tO:=alg (dy hi);have mz:=Ki e;have hal:=aFc (e:=e) (i:=i) (ls:=la) (xs:=us);obtain⟨s,t,b,h1,h2,h3⟩:=ih e.L[i] (dy hi) (pY e i la us) (pY e i lb vs) (aGI Bx LQ hu.symm) (by omega);have cr:∀r,E (λN m=>bif !(gB (0,[J (bU s),ak b]).2 1)then some (0,[aq,nS l en,J (aP e),J z3,aa []])else wD (FU CX EE N) N m [dQ (la.map bU),aT (e.L.map aP),iI (ln (e.L.map aP)),iI ((i+1:Nat):Int),nS l en,J (aP e),J z4,dQ ((us++[s]).map bU),aa []]) r->
    bP wD [dQ (la.map bU),aT (e.L.map aP),iI (ln (e.L.map aP)),iI (i:Int),nS l en,J (aP e),J z4,dQ (us.map bU),aa []] r:=λr hr=>by
    refine bD ac0 (br (dx hi) (aH (cN hi) ?_));rw [eQ];refine aj (arC hu.symm (by omega)) ?_;rw [sX hi,ix hi bz.len,show gC (0,[dQ ((pY e i la us).map bU),J (aP e),dQ (us.map bU)]).2 1=aP e from rfl,eQ];refine aj h1 ?_;rw [oi]at hr;cases b with
    |false=>exact hr
    |true=>
     refine bj (aH ?_ hr);show decide (((us.map bU).length +1)*48<=140737488355328)=true;exact w9
   have rr:∀r,E (λN m=>bif !(gB (0,[J (bU t),ak b]).2 1)then some (0,[aq,jZ l lb en,J (aP e),J z3,aa []])else wG (FU CX EE N) N m [iI ((i+1:Nat):Int),jZ l lb en,J (aP e),J z4,eC ((vs++[t]).map bU),aa []]) r->
    bP wG [iI (i:Int),jZ l lb en,J (aP e),J z4,eC (vs.map bU),aa []] r:=λr hr=>by
    refine bD aez (br (by rw [uz];exact dx hi) ?_);rw [eQ];refine aj (arR (l:=l) (en:=en) (e:=e) (i:=i) (ls:=lb) (xs:=vs) (by omega) (by omega)) ?_;rw [show gC (0,[jZ l lb en,J (aP e),eC (vs.map bU),jZ l (pY e i lb vs) en]).2 1=aP e from rfl,uz,eQ];refine aH (cN hi) ?_;rw [sX hi,ix hi bz.len];refine aj h2 ?_;rw [oi]at hr;cases b with
    |false=>exact hr
    |true=>
     refine bj (aH ?_ hr);show decide (((vs.map bU).length +1)*48<=140737488355328)=true;exact w9
   cases b with
   |false=>exact .inr ⟨cr _ (aY aL),rr _ (aY aL)⟩
   |true=>
    rcases fr (us++[s]) (vs++[t]) (LQ.snoc (h3 rfl).1) (by simp [hu])with⟨xs,ys,q1,q2,q0,q3,q4⟩|⟨q1,q2⟩
    ·refine .inl ⟨xs,ys,q1,q2,λy hy=> ?_,cr _ (bj q3),rr _ (bj q4)⟩;rw [fW hi]at hy;rcases gX.1 hy with rfl|hy
     ·exact(h3 rfl).2
     ·exact q0 y hy
    ·exact .inr ⟨cr _ (bj q1),rr _ (bj q2)⟩
 exact h [] [] .nil rfl
end
end
end Go.Proofs.YtomkobcipaligaaGreatDoor
namespace Go.aA
def sV{p:Prop}(h:p:=by rw [dB];simp;omega):p:=h
def oO{p:Prop}(h:p:=by kernel_rfl):p:=h
end Go.aA
namespace Go.aA
def Yz:=@List.map_set
def Jy:=@List.pairwise_iff_getElem
def PO:=@List.getElem_take
def PN:=@List.getElem_of_mem
def ahG:=@List.pairwise_singleton
def Yy:=@List.drop_eq_nil_of_le
def Co:=@List.length_replicate
def Yx:=@List.take_append_of_le_length
end Go.aA
namespace Go.Proofs.YtomkobcipaligaaGreatDoor
open Go Go.aA
section
variable{i:Nat}{l:cW}
def afK:∀l:cW,CU (om l)=some l
 | []=>rfl
 |x::l=>by
  show(match CU (om l)with|some l'=>some (x::l')|none=>none)=_;rw [afK l]
def aFp(N:Nat):FU CX EE (N+24) MU [aa []]=some (0,[aa []]):=oO
def aFh:EE[MU]?=some MV:=oO
def aBM(z:Int)(zs:cW):Dk MV [aa (om (z::zs))]=match CU (om (z::zs))with|some l=>aR (Nat.ble l.length 4611686018427387903) (some (0,[.ab 3 (om (nw l))]))|none=>none:=oO
def aGV(hl:l.length<=mx):Ev MU [aa (ints l)] (0,[aa (ints (nw l))]):=by
 cases l with
 |nil=>
  refine⟨24,λN _ h _=> ?_⟩;obtain⟨M,rfl⟩:∃M,N=M+24:=⟨N- 24,by omega⟩;have:nw []=[]:=List.mergeSort_nil;rw [this];exact aFp M
 |cons z zs=>
  refine amC (g:=λ_=>some (0,[aa (ints (nw (z::zs)))])) (λN=> ?_) aL;unfold bZ;rw [aFh];show(match Dk MV [aa (om (z::zs))]with|some o=>some o|none=>_)=_;rw [aBM,afK];show(match aR (Nat.ble (z::zs).length 4611686018427387903) (some (0,[AV.ab 3 (om (nw (z::zs)))]))with|some o=>some o|none=>_)=_;rw [show Nat.ble (z::zs).length 4611686018427387903=true from Nat.ble_eq_true_of_le (by simp only [mx]at hl;omega)];rfl
def af6(l:cW):(nw l).Perm l:=List.mergeSort_perm l _
def azL(l:cW):(nw l).Pairwise (·<= ·):=by
 have:=List.pairwise_mergeSort (le:=λx y:Int=>decide (x<=y)) (λa b c h1 h2=>by simp at*;omega) (λa b=>eu) l;exact this.imp λh=>jU
def toNl{o:Int}{n:Nat}(h:ib o n=true):decide (o.toNat<n)=true:=by have:=jv.1 h;simp;omega
def gi(h:i<l.length):gI (gA (ints l) i) 0=l[i]:=by
 rw [Rp h,lN,dD h];rfl
def aFy(h:i<l.length)(v:Int):(ints l).set i (setAt (gA (ints l) i) 0 [iI v])=ints (l.set i v):=by
 rw [sQ h];show(l.map _).set i [iI v]=(l.set i v).map _;rw [Yz]
def Cpt(l r:cW):Prop:=r.Nodup∧∀x,x∈r ↔ x∈l
def ahp{r:cW}(h:r.Pairwise (·< ·)):r.Nodup:=h.imp λh e=>by omega
def aOO(hl:l.length<=mx)(hs:l.Pairwise (·<= ·)){k:Nat}(hk:k<l.length):∀(m k2:Nat),k+k2+m=l.length->1<=k2->∀(X R:cW),X.length=l.length->(∀j,k+k2- 1<=j->j<l.length->X[j]?=l[j]?)->X.take R.length=R->R.length<=k+k2- 1->R.Pairwise (·< ·)->(∀x,x∈R ↔ x∈l.take (k+k2))->∃X' R':cW,X'.length=l.length∧X'.take R'.length=R'∧R'.length<=l.length∧Cpt l R'∧
 bP Ep [iI (R.length:Int),.vw 0 k (l.length- k),iI (k2:Int),aa (ints X)] (0,[iI (R'.length:Int),aa (ints X')]):=by
 intro m;simp only [mx]at hl
 induction m with
 |zero=>
  intro k2 hm h1 X R hX hj hR hRl Tw Mf;refine⟨X,R,hX,hR,by omega,⟨ahp Tw,λx=>by rw [Mf,Cq (by omega)]⟩,?_⟩;refine bD acI (ax ?_ aL);exact eu
 |succ m ih=>
  intro k2 hm h1 X R hX hj hR hRl Tw Mf;have HD:bw ((k2:Int)- 1)=((k2- 1:Nat):Int):=vF;have tM:k+k2<X.length:=by omega
  have zF:k+(k2- 1)<X.length:=by omega
  have cM:k+k2<l.length:=by omega
  have pS:X[k+k2]=l[k+k2]:=by
   have:=hj (k+k2) (by omega) cM;rw [dD tM,dD cM]at this;injection this
  have Bl:X[k+(k2- 1)]=l[k+(k2- 1)]:=by
   have:=hj (k+(k2- 1)) (by omega) (by omega);rw [dD zF,dD (by omega)]at this;injection this
  have hle:l[k+(k2- 1)]<=l[k+k2]:=Jy.1 hs _ _ (by omega) cM (by omega);have Bp:l.take (k+k2+1)=l.take (k+k2)++[l[k+k2]]:=by rw [Cp,dD cM];rfl
  have hZ:l[k+(k2- 1)]∈l.take (k+k2):=by
   have:l[k+(k2- 1)]=(l.take (k+k2))[k+(k2- 1)]'(Zf):=by rw [PO]
   rw [this];exact dy _
  have Bn:∀x∈R,x<=l[k+(k2- 1)]:=λx hx=>by
   have hx:=(Mf x).1 hx;obtain⟨i,hi,rfl⟩:=PN hx;rw [pg]at hi;rw [PO]
   by_cases he:i=k+(k2- 1)
   ·subst he;exact sK _
   ·exact Jy.1 hs _ _ (by omega) (by omega) (by omega)
  have t0:decide ((k2:Int)<((l.length- k:Nat):Int))=true:=eu;have t1:(decide (0<=(k2:Int))&&decide ((k2:Int)<((l.length- k:Nat):Int)))=true:=eu;have t2:decide (k+((k2:Int)).toNat <(ints X).length)=true:=by rw [mU,ey];simpa using tM
  have t3:(decide (0<=((k2- 1:Nat):Int))&&decide (((k2- 1:Nat):Int)<((l.length- k:Nat):Int)))=true:=eu;have t4:decide (k+(((k2- 1:Nat):Int)).toNat <(ints X).length)=true:=by rw [mU,ey];simpa using zF
  have hnx:bw ((k2:Int)+1)=((k2+1:Nat):Int):=vF;have C:∀r:UO,_->bP Ep [iI (R.length:Int),.vw 0 k (l.length- k),iI (k2:Int),aa (ints X)] r:=λr h=>by
   refine bD acI ?_;rw [HD];refine br t0 (aH t1 (aH t2 (aH t3 (aH t4 ?_))));rw [mU,mU,gi tM,gi zF,pS,Bl,hnx];exact h
  by_cases he:l[k+k2]=l[k+(k2- 1)]
  ·obtain⟨X',R',q1,q2,q3,q4,q5⟩:=ih (k2+1) (by omega) (by omega) X R hX (λj h1 h2=>hj j (by omega) h2) hR (by omega) Tw λx=>by
    rw [<-Nat.add_assoc,Bp,j7,Mf];constructor
    ·exact λh=> .inl h
    ·rintro(h|h)
     ·exact h
     ·simp at h;subst h;rw [he];exact hZ
   exact⟨X',R',q1,q2,q3,q4,C _ (ax (yt) q5)⟩
  ·have Tx:R.length<X.length:=by omega
   have aGb:(X.set R.length l[k+k2]).take (R.length+1)=R++[l[k+k2]]:=by
    rw [Cp,qK Tx];rw [List.take_set_of_le (fk _),hR];rfl
   obtain⟨X',R',q1,q2,q3,q4,q5⟩:=ih (k2+1) (by omega) (by omega) (X.set R.length l[k+k2]) (R++[l[k+k2]]) (by simp [hX]) (λj h1 h2=>by
    rw [kI (by omega)];exact hj j (by omega) h2) (by rw [e7];exact aGb) (eu)
    (by
      rw [List.pairwise_append];refine⟨Tw,ahG _ _,λa ha b hb=> ?_⟩;simp at hb;subst hb;have:=Bn a ha;omega) λx=>by
    rw [<-Nat.add_assoc,Bp,j7,j7,Mf]
   have yS:=aFy (l:=X) Tx l[k+k2];refine⟨X',R',q1,q2,q3,q4,C _ (br (yt) (aH t1 (aH t2 (aH (c:=ib (R.length:Int) (ints X).length) (by rw [ey];exact qM Tx) (aH (by rw [mU,ey];simpa using Tx) ?_)))))⟩;have wm:bw ((R.length:Int)+1)=((R.length+1:Nat):Int):=vF;rw [mU,yS,wm];rw [e7]at q5;exact q5
def aON(hl:l.length<=mx)(hs:l.Pairwise (·<= ·)):∀(m k:Nat),k+m=l.length->1<=k->(l.take k).Pairwise (·< ·)->∃r:cW,Cpt l r∧∃q,bP H5 [iI (k:Int),aa (ints l)] (q,[aa (ints r)]):=by
 intro m;have tL:=hl;simp only [mx]at hl
 induction m with
 |zero=>
  intro k hk h1 hp;rw [Cq (by omega)]at hp;exact⟨l,⟨ahp hp,λx=>qJ⟩,1,bD acJ (ax (sV) aL)⟩
 |succ m ih=>
  intro k hk h1 hp;have qy:k<l.length:=by omega
  have Tn:k- 1<l.length:=by omega
  have HD:bw ((k:Int)- 1)=((k- 1:Nat):Int):=vF;have fG:ib (k:Int) (ints l).length =true:=by rw [ey];exact qM qy
  have ao1:ib ((k- 1:Nat):Int) (ints l).length =true:=by rw [ey];exact qM Tn
  have hle:l[k- 1]<=l[k]:=Jy.1 hs _ _ Tn qy (by omega);have nX:ln (ints l)=(l.length:Int):=by rw [dB]
  have t0:decide ((k:Int)<(l.length:Int))=true:=eu;have C:∀r:UO,_->bP H5 [iI (k:Int),aa (ints l)] r:=λr h=>by
   refine bD acJ ?_;rw [HD,nX];refine br t0 (aH fG (aH (toNl fG) (aH ao1 (aH (toNl ao1) ?_))));rw [mU,mU,gi qy,gi Tn];exact h
  by_cases he:l[k]=l[k- 1]
  ·have hR:(l.take k).length =k:=by rw [pg];omega
   obtain⟨X',R',q1,q2,q3,q4,q5⟩:=aOO tL hs qy (m) 1 (by omega) (by omega) l (l.take k) rfl (λj _ _=>rfl) (by rw [hR]) (by rw [hR];omega) hp λx=>by
    rw [Cp,dD qy,j7];constructor
    ·exact λh=> .inl h
    ·rintro(h|h)
     ·exact h
     ·simp at h;subst h;rw [he];have:l[k- 1]=(l.take k)[k- 1]'(Zf):=by rw [PO]
      rw [this];exact dy _
   rw [hR]at q5;refine⟨R',q4,0,C _ (br (yt) (aH (eu) ?_))⟩;rw [show(ints l).length - k=l.length- k by rw [ey]];refine aj q5.diag ?_;have hc:pW [iI 0] (ints X') R'.length ((ints X').length - R'.length)=ints R'++List.replicate ((ints X').length - R'.length) [iI 0]:=by
    unfold pW tC;rw [show(ints X').take R'.length=ints R' by
     show(X'.map _).take _=_;rw [<-List.map_take,q2]]
    rw [Yy (by rw [Co,ey,q1];omega),Ad]
   have eJ:(pW [iI 0] (ints X') R'.length ((ints X').length - R'.length)).length =l.length:=by
    rw [hc,e7,Co,ey,ey,q1];omega
   have l1:ln (ints X')=(l.length:Int):=by rw [dB,q1]
   have l2:ln (pW [iI 0] (ints X') R'.length ((ints X').length - R'.length))=(l.length:Int):=by show((_:Nat):Int)=_;rw [eJ]
   show E (λN _=>aR (decide (0<=(R'.length:Int))&&decide ((R'.length:Int)<=ln (ints X'))&&decide (ln (ints X')<=ln (ints X')))<|aR (decide (0<=(R'.length:Int))&&decide ((R'.length:Int)<=ln (pW ([iI 0]) (ints X') (((R'.length:Int)).toNat) (((ints X').length)-(((R'.length:Int)).toNat))))&&decide (ln (pW ([iI 0]) (ints X') (((R'.length:Int)).toNat) (((ints X').length)-(((R'.length:Int)).toNat)))<=ln (pW ([iI 0]) (ints X') (((R'.length:Int)).toNat) (((ints X').length)-(((R'.length:Int)).toNat)))))<|some (0,[aa ((pW ([iI 0]) (ints X') (((R'.length:Int)).toNat) (((ints X').length)-(((R'.length:Int)).toNat))).take (((R'.length:Int)).toNat))])) _;rw [mU,l1,l2];refine aH (eu) (aH (eu) (af ?_));rw [hc,Yx (by simp),Cq (by simp)]
  ·have Bq:(l.take (k+1)).Pairwise (·< ·):=by
    rw [Cp,dD qy];show(l.take k++[l[k]]).Pairwise _;rw [List.pairwise_append];refine⟨hp,ahG _ _,λa ha b hb=> ?_⟩;simp at hb;subst hb;obtain⟨i,hi,rfl⟩:=PN ha;rw [pg]at hi;rw [PO];have:l[i]<=l[k- 1]:=by
     by_cases h:i=k- 1
     ·subst h;exact sK _
     ·exact Jy.1 hs _ _ (by omega) Tn (by omega)
    omega
   obtain⟨r,r1,q,r2⟩:=ih (k+1) (by omega) (by omega) Bq;refine⟨r,r1,q,C _ (ax (yt) ?_)⟩;rw [jI (by omega) (by omega)];exact r2
def aOJ(hl:l.length<=mx)(hs:l.Pairwise (·<= ·)):∃r:cW,Cpt l r∧Ev T8 [aa (ints l)] (0,[aa (ints r)]):=by
 by_cases h2:l.length<2
 ·refine⟨l,⟨?_,λx=>qJ⟩,bx acO (br (sV) aL)⟩
  match l,h2 with
  | [],_=>exact wL
  | [x],_=>simp
  |_::_::_,h=>simp at h;omega
 ·obtain⟨r,r1,q,r2⟩:=aON hl hs (l.length- 1) 1 (by omega) (by omega) (by
   match l,h2 with
   |x::xs,_=>simp
   | [],h=>simp at h)
  exact⟨r,r1,bx acO (ax (sV) (aj r2.diag (aw (λ_=>aL) λ_=>aL)))⟩
end
end Go.Proofs.YtomkobcipaligaaGreatDoor
namespace Go.aA
def CI{p:Prop}(h:p:=by rw [he];rfl):p:=h
end Go.aA
namespace Go.Proofs.YtomkobcipaligaaGreatDoor
open Go Go.aA
section
variable{i:Int}{x:SO}
abbrev zE(p:Bool)(k:Nat):AV:= J [ak p,aq,.aC k,iI 0,iI 0]
abbrev DQ(a b:SO):AV:= dQ [bU a,bU b]
abbrev pR(l:cW):AV:= aa (ints l)
variable {a b:SO}
def eiJ:bK Wu [J (bU a),J (bU b),zE false 3,pR []]
 (bif !a.ptr&& !b.ptr then(1,[cw,J (bU a),J (bU b),J [aq,aq,.aC 3,iI (nz a.lo b.lo),iI (imax a.hi b.hi)],pR []])else(0,[J (bU a),J (bU b),zE false 3,pR []])):=by
 refine bW axw ?_;cases ha:a.ptr with
 |true=>exact ax (by show(!a.ptr)=false;rw [ha];rfl) aL
 |false=>
  refine br (by show(!a.ptr)=true;rw [ha];rfl) ?_;cases hb:b.ptr with
  |true=>exact ax (by show(!b.ptr)=false;rw [hb];rfl) aL
  |false=>exact br (by show(!b.ptr)=true;rw [hb];rfl) aL
def aGv(acc:cW):bP uX [iI 2,iI 2,zE false 3,zE true 4,DQ a b,pR [],pR acc] (1,[zE false 3,zE true 4,DQ a b,pR [],pR acc]):=
 bD Vc (bj aL)
def amv(hi:0<=i)(h2:i<2)(hx:gA [bU a,bU b] i.toNat=bU x)(hp:x.ptr=false)(hn:x.null=false)(acc:cW):
 bP uX [iI 2,iI i,zE false 3,zE true 4,DQ a b,pR [],pR acc] (0,[aq,J [aq,aq,.aC 3,iI 0,iI 0],zE true 4,DQ a b,pR [],pR acc]):=by
 have fG:ib i [bU a,bU b].length =true:=jv.2 ⟨hi,qc⟩;refine bD Vc (br (qc) (aH fG (aH (toNl fG) ?_)));rw [hx];exact br (by show(!x.ptr)=true;rw [hp];rfl) (br (by show(!x.null)=true;rw [hn];rfl) aL)
def Z3{j:Int}(hi:0<=i)(h2:i<2)(hj:bw (i+1)=j)(hx:gA [bU a,bU b] i.toNat=bU x)(hp:(x.ptr||x.null)=true){acc:cW}(hl:acc.length+x.set.length<=mx){r:UO}
 (h:bP uX [iI 2,iI j,zE false 3,zE true 4,DQ a b,pR [],pR (acc++bif x.ptr then x.set else [])] r):
 bP uX [iI 2,iI i,zE false 3,zE true 4,DQ a b,pR [],pR acc] r:=by
 have fG:ib i [bU a,bU b].length =true:=jv.2 ⟨hi,qc⟩;refine bD Vc (br (qc) (aH fG (aH (toNl fG) ?_)));rw [hx,hj];have hs:ints acc++gR (bU x) 2=ints (acc++x.set):=(oi).symm;cases hq:x.ptr with
 |true=>
  rw [hq]at h;refine ax (by show(!x.ptr)=false;rw [hq];rfl) (br hq (aH ?_ ?_))
  ·show decide (((ints acc).length +(ints x.set).length)*8<=_)=true;rw [ey,ey];simp only [mx]at hl;simp;omega
  ·rw [hs];exact h
 |false=>
  rw [hq]at h hp;refine br (by show(!x.ptr)=true;rw [hq];rfl) (ax (by show(!x.null)=false;simp at hp;rw [hp];rfl) (ax hq ?_));rw [show acc++(bif false then x.set else [])=acc from Ad _]at h;exact h
def aGu:kO:=by
 intro n hn a b ha hb;have la:=ha.len;have lb:=hb.len;have m4:(4096:Nat)<=mx:=Gg;have C:∀r:UO,_->Ev IU [J (bU a),J (bU b)] r:=λr h=>bx azt (aj (eiJ (a:=a) (b:=b)) h);cases hz:(!a.ptr&& !b.ptr)with
 |true=>
  rw [hz]at C;have h1:a.ptr=false:=by simp at hz;exact hz.1
  have h2:b.ptr=false:=by simp at hz;exact hz.2
  have he:oR a b=true:=by unfold oR;rw [hz];rfl
  refine⟨⟨false,false,[],nz a.lo b.lo,imax a.hi b.hi⟩,C _ (bj (af ?_)),λ_=>⟨PZ rfl,?_⟩⟩
  ·exact CI
  ·exact⟨F8,rfl,F8,F8,λx=>by simp [h1,h2]⟩
 |false=>
  rw [hz]at C;have he:oR a b=((a.ptr||a.null)&&(b.ptr||b.null)):=by unfold oR;rw [hz];rfl
  have hpp:(a.ptr||b.ptr)=true:=by cases h:a.ptr<;>cases h':b.ptr<;>simp_all
  have C2:∀(o r:UO),bP uX [iI 2,iI 0,zE false 3,zE true 4,DQ a b,pR [],pR []] o->_->Ev IU [J (bU a),J (bU b)] r:=λo r h h'=>C r (aY (aj h.diag h'));cases hA:(a.ptr||a.null)with
  |false=>
   have h1:a.ptr=false:=by simp at hA;exact hA.1
   have h2:a.null=false:=by simp at hA;exact hA.2
   refine⟨kF,C2 _ _ (amv (i:=0) (by omega) (by omega) rfl h1 h2 []) (aY (af ?_)),λh=> ?_⟩
   ·rw [he,hA];rfl
   ·rw [he,hA]at h;cases h
  |true=>
   have ir:(bif a.ptr then a.set else []).length <=n:=by cases a.ptr<;>simp;omega
   cases hB:(b.ptr||b.null)with
   |false=>
    have h1:b.ptr=false:=by simp at hB;exact hB.1
    have h2:b.null=false:=by simp at hB;exact hB.2
    refine⟨kF,C2 _ _ (Z3 (i:=0) (j:=1) (by omega) (by omega) rfl rfl hA (eu) (amv (i:=1) (by omega) (by omega) rfl h1 h2 _)) (aY (af ?_)),λh=> ?_⟩
    ·rw [he,hA,hB];rfl
    ·rw [he,hA,hB]at h;cases h
   |true=>
    obtain⟨X,hX⟩:∃X,X=([]++(bif a.ptr then a.set else []))++(bif b.ptr then b.set else []):=⟨_,rfl⟩;have zx:(bif b.ptr then b.set else []).length <=n:=by cases b.ptr<;>simp;omega
    have lX:X.length<=mx:=by rw [hX];simp only [mE,e7];omega
    have lp:=Z3 (a:=a) (b:=b) (i:=0) (j:=1) (by omega) (by omega) rfl rfl hA (acc:=[]) (eu) (Z3 (i:=1) (j:=2) (by omega) (by omega) rfl rfl hB (by simp only [mE];omega) (aGv _));rw [<-hX]at lp;obtain⟨r,r1,r2⟩:=aOJ (l:=nw X) (by rw [(af6 X).length_eq];exact lX) (azL X);have hm:∀x,x∈r ↔ (a.ptr=true∧x∈a.set)∨(b.ptr=true∧x∈b.set):=λx=>by
     rw [r1.2,(af6 X).mem_iff,hX];cases a.ptr<;>cases b.ptr<;>simp
    have hE:y9 a b ⟨true,false,r,0,0⟩:=⟨hpp.symm,rfl,by rw [hpp];rfl,by rw [hpp];rfl,hm⟩;refine⟨⟨true,false,r,0,0⟩,C2 _ _ lp (bj (aj (aGV lX) (aj r2 (af ?_)))),λ_=>⟨⟨r1.1,hE.jz ha hb⟩,hE⟩⟩;rw [he,hA,hB];rfl
end
end Go.Proofs.YtomkobcipaligaaGreatDoor
namespace Go.aA
def akv{p:Prop}(h:p:=by
 unfold mq at hf;simp only [bM]at hf;exact hf.1.1.1.1.1.1.1):p:=h
end Go.aA
namespace Go.Proofs.YtomkobcipaligaaGreatDoor
open Go Go.aA
section
variable{e:CE}{r:UO}
section
variable {l:List OB} (en:Int)
theorem ahf{la xs:List SO}(hf:mq e=true)
 (hl:bP wD [dQ (la.map bU),aT (e.L.map aP),iI (ln (e.L.map aP)),iI 0,nS l en,J (aP e),J z4,dQ [],aa []] r):
 bK MY [dQ (la.map bU),nS l en,J (aP e),J z4,dQ [],aa []]
  (bif Nat.beq r.1 0 then(1,[ak (gB r.2 0),J [bJ (gR (gC r.2 1) 0),iI (gI (gC r.2 1) 1)],J (nL (gC r.2 2)),J (sT (eY (gC r.2 3)) ox),aa (gR r.2 4)])
    else(0,[J [bJ (gR (gC r.2 0) 0),iI (gI (gC r.2 0) 1)],J (nL (gC r.2 1)),J (sT (eY (gC r.2 2)) nA),dQ (gR r.2 3),aa (gR r.2 4)])):=by
 refine bW asK ?_;rw [uz,eQ];refine aj hl.diag (aw (λh=>af (gv)) λh=>af (gv))
theorem ahe{lb:List SO}
 (hl:bP wG [iI 0,jZ l lb en,J (aP e),J z4,eC [],aa []] r):
 bK Of [jZ l lb en,J (aP e),J z4,eC [],aa []]
  (bif Nat.beq r.1 0 then(1,[ak (gB r.2 0),J (VM (gC r.2 1)),J (nL (gC r.2 2)),J (sT (eY (gC r.2 3)) ox),aa (gR r.2 4)])
    else(0,[J (VM (gC r.2 0)),J (nL (gC r.2 1)),J (sT (eY (gC r.2 2)) nA),eC (gR r.2 3),aa (gR r.2 4)])):=by
 refine bW azk ?_;rw [eQ];refine aj hl.diag (aw (λh=>af (gv)) λh=>af (gv))
theorem aGJ(hf:mq e=true){k:Int}(hk:e.kind=k):(fu (.mk k e.op e.N e.O e.off e.len e.lo e.hi e.L)).2 =(e.L.length:Int):=by
 have h1:((fu e).2 ==(e.L.length:Int))=true:=akv;rw [<-eq_of_beq h1,<-hk,<-CE.eta]
end
end
end Go.Proofs.YtomkobcipaligaaGreatDoor
namespace Go.aA
def Kv{p:Prop}(h:p:=by
 cases ha:decide (0<=o)<;>rw [ha]at hs
 ·cases hs
 cases hb:decide (o<(l.length:Int))<;>rw [hb]at hs
 ·cases hs
 exact sW ha hb):p:=h
def alN{p:Prop}(h:p:=by
 show(0,[J [ak (gB (gA (cb l) o.toNat) 3),aq,aa (gR (gA (cb l) o.toNat) 4),iI (gI (gA (cb l) o.toNat) 1),iI (gI (gA (cb l) o.toNat) 2)],cw])=_;rw [mj hi];rfl):p:=h
def ak0{p:Prop}(h:p:=by
 cases h66:k==6 with
 |true=>rw [eq_of_beq h66];rfl
 |false=>rw [h66]at h6;rw [eq_of_beq (show(k==7)=true from h6)];rfl):p:=h
def akY{p:Prop}(h:p:=by
 rw [mj hi];exact aH dZ (aw (c:= !(cQ l o).ptr) (λh=>aH dZ (af (by rw [hi,h];rfl))) λh=>af (by rw [hi,h];rfl))):p:=h
def QP{p:Prop}(h:p:=by have:(1:Int)=(xs.length:Int):=ar;omega):p:=h
def ajF{p:Prop}(h:p:=by show ib o (cb l).length =true;rw [py];exact hi):p:=h
def Zk{p:Prop}(h:p:=by rw [eq_of_beq h1];rfl):p:=h
def aiP{p:Prop}(h:p:=by have:(2:Int)=(xs.length:Int):=ar;omega):p:=h
end Go.aA
namespace Go.Proofs.YtomkobcipaligaaGreatDoor
open Go Go.aA
section
variable{xs ys:List SO}{n:Nat}
def ait(k:Int):bK T5 [bE k] (0,[ak (bif k==6 then true else k==7)]):=
 bW aqT (aw (λh=>af (gv)) λh=>af (gv))
def ais(k:Int):bK Vy [bE k] (0,[ak (bif k==6 then true else k==7)]):=
 bW au4 (aw (λh=>af (gv)) λh=>af (gv))
def JP(h:RL n xs ys)(hl:xs.length=1):∃x y,xs=[x]∧ys=[y]∧RI n x y:=by
 cases h with
 |nil=>simp at hl
 |cons h t=>cases t with
  |nil=>exact⟨_,_,rfl,rfl,h⟩
  |cons=>simp at hl
def P6(h:RL n xs ys)(hl:xs.length=2):∃x y x1 y1,xs=[x,x1]∧ys=[y,y1]∧RI n x y∧RI n x1 y1:=by
 cases h with
 |nil=>simp at hl
 |cons h t=>
  obtain⟨x1,y1,rfl,rfl,h1⟩:=JP t (pw);exact⟨_,_,_,_,rfl,rfl,h,h1⟩
def aCh(h:RL n xs ys)(hl:xs.length=3):∃x y x1 y1 x2 y2,xs=[x,x1,x2]∧ys=[y,y1,y2]∧RI n x y∧RI n x1 y1∧RI n x2 y2:=by
 cases h with
 |nil=>simp at hl
 |cons h t=>
  obtain⟨x1,y1,x2,y2,rfl,rfl,h1,h2⟩:=P6 t (pw);exact⟨_,_,_,_,_,_,rfl,rfl,h,h1,h2⟩
def aFo(hE:kO){l:List OB}(ol:OL l)(en:Int):∀e:CE,e.Ok->Z6 l en e:=by
 refine CE.ind λe ih bz=> ?_;intro la lb Bx hd;have L3:=Bx.len;cases hf:mq e with
 |false=>
  have hJ:=apm e z3;have hR:=apl e;rw [hf]at hJ hR;refine⟨kF,kF,false,bx Vg ?_,bx XC ?_,λh=>aX⟩
  ·rw [eQ];refine aj (exC e) ?_;rw [show gC (0,[J (aP (fu e).1),iI (fu e).2]).2 0=aP (fu e).1 from rfl,eQ];exact aj hJ (bj aL)
  ·rw [eQ];exact aj hR (aY aL)
 |true=>
  have hJ:=apm e z3;have hR:=apl e;rw [hf]at hJ hR;have hn:e.L.length<=1000:=by
   have h1:((fu e).2 ==(e.L.length:Int))=true:=akv;have h2:(fu e).2 <=3:=by
    unfold fu;generalize kN e.kind=b1;generalize (e.kind==2)=b2;generalize (e.kind==3)=b3;generalize (e.kind==4)=b4;generalize (e.kind==5)=b5;generalize kT e.kind=b6;generalize (e.kind==8)=b7;generalize (e.kind==9)=b8;generalize (e.kind==12)=b9;generalize (e.kind==13)=b10;cases b1<;>simp only [cf,cE]
    ·cases b2<;>simp only [cf,cE]
     ·cases b3<;>simp only [cf,cE]
      ·cases b4<;>simp only [cf,cE]
       ·cases b5<;>simp only [cf,cE]
        ·cases b6<;>simp only [cf,cE]
         ·cases b7<;>simp only [cf,cE]
          ·cases b8<;>simp only [cf,cE]
           ·cases b9<;>simp only [cf,cE]
            ·cases b10<;>simp only [cf,cE]<;>decide
            ·exact lh
           ·exact lh
          ·exact lh
         ·exact lh
        ·exact lh
       ·exact lh
      ·exact lh
     ·exact lh
    ·exact lh
   have h3:=eq_of_beq h1;omega
  have Bk:∀y∈e.L,Z6 l en y:=λy hy=>ih y hy (bz.uH hy);rcases elems en bz hn Bk Bx hd with⟨xs,ys,xD,zq,ef,c1,r1⟩|⟨c1,r1⟩
  rotate_left
  ·refine⟨kF,kF,false,bx Vg ?_,bx XC ?_,λh=>aX⟩
   ·rw [eQ];refine aj (exC e) ?_;rw [show gC (0,[J (aP (fu e).1),iI (fu e).2]).2 0=aP (fu e).1 from rfl,eQ];refine aj hJ (aY ?_);simp only [cf];rw [show gC (0,[J (aP e),J (sT (eY z3) ox),J (aP (fu e).1),aa []]).2 0=aP e from rfl,eQ];exact aj (ahf (xs:=[]) en hf c1) (bj aL)
   ·rw [eQ];exact aj hR (bj (aj (ahe en r1) (bj aL)))
  have hGC:bK MY [dQ (la.map bU),nS l en,J (aP e),J z4,dQ [],aa []] (0,[nS l en,J (aP e),J z4,dQ (xs.map bU),aa []]):=by
   have:=ahf (xs:=xs) en hf c1;rw [show gC (1,[nS l en,J (aP e),J z4,dQ (xs.map bU),aa []]).2 1=aP e from rfl,eQ]at this;exact this
  have hGR:bK Of [jZ l lb en,J (aP e),J z4,eC [],aa []] (0,[jZ l lb en,J (aP e),J z4,eC (ys.map bU),aa []]):=by
   have:=ahe en r1;rw [show gC (1,[jZ l lb en,J (aP e),J z4,eC (ys.map bU),aa []]).2 1=aP e from rfl,eQ]at this;exact this
  have ar:=λk hk=>aGJ hf (k:=k) hk;rw [<-zq]at ar;clear ih Bk c1 r1 zq;have C:∀r:UO,_->Ev Is [nS l en,J (aP e),dQ (la.map bU)] r:=λr h=>by
   refine bx Vg ?_;rw [eQ];refine aj (exC e) ?_;rw [show gC (0,[J (aP (fu e).1),iI (fu e).2]).2 0=aP (fu e).1 from rfl,eQ];refine aj hJ (aY ?_);simp only [cf];rw [show gC (0,[J (aP e),J (sT (eY z3) ox),J (aP (fu e).1),aa []]).2 0=aP e from rfl,eQ];refine aj hGC (aY ?_);exact h
  have R:∀r:UO,_->Ev Jo [jZ l lb en,J (aP e)] r:=λr h=>by
   refine bx XC ?_;rw [eQ];refine aj hR (bj (aj hGR (aY ?_)));exact h
  clear hGC hGR hR hJ hf bz;cases e with
  |mk k p n o f ln lo hi L=>
  have ar:(fu (.mk k p n o f ln lo hi L)).2 =(xs.length:Int):=ar k rfl;have I0:(k==2||k==3||k==12)=false->xP l.length (.mk k p n o f ln lo hi L):=λh=> .mk _ (λh'=>by rw [show(CE.mk k p n o f ln lo hi L).kind =k from rfl,h]at h';cases h') ef;have I1:ib o l.length=true->xP l.length (.mk k p n o f ln lo hi L):=λh=> .mk _ (λ_=>h) ef;cases h1:k==1 with
  |true=>
   refine⟨⟨false,n==0,[],n,n⟩,⟨false,n==0,[],n,n⟩,bif decide (-2147483648<=n)then decide (n<=2147483647)else false,C _ ?_,R _ ?_,λ_=>⟨vj rfl,I0 (Zk)⟩⟩
   ·exact br h1 (aw (c:=decide (-2147483648<=n)) (λh=>af (gv)) λh=>af (gv))
   ·exact br h1 (aw (c:=decide (-2147483648<=n)) (λh=>af (gv)) λh=>af (gv))
  |false=>
  cases h2:k==2 with
  |true=>
   have zC:=QW (l:=l) (en:=en) (o:=o) (off:=f);have zA:=alq (l:=l) (o:=o) (off:=f);cases hs:jw l o f with
   |false=>
    rw [hs]at zC zA;exact⟨kF,kF,false,C _ (ax h1 (br h2 (aj zC (aY aL)))),R _ (ax h1 (br h2 (aj zA (aY aL)))),λh=>aX⟩
   |true=>
    rw [hs]at zC zA;have hi:ib o l.length=true:=by
     unfold jw at hs;exact Kv
    have hm:=qH hi;refine⟨⟨(cQ l o).ptr,false,(cQ l o).set,(cQ l o).lo,(cQ l o).hi⟩,⟨(cQ l o).ptr,false,(cQ l o).set,(cQ l o).lo,(cQ l o).hi⟩,true,C _ (ax h1 (br h2 (aj zC (bj (aH (ajF) (af ?_)))))),R _ (ax h1 (br h2 (aj zA (bj (aH (ajF) (af ?_)))))),λ_=>⟨⟨⟨ol.nd _ hm,ol.jz _ hm⟩,⟨ol.nd _ hm,ol.jz _ hm⟩,rel_refl _⟩,I1 hi⟩⟩
    ·exact alN
    ·exact alN
  |false=>
  cases h3:k==3 with
  |true=>
   have ek:=eq_of_beq h3;subst ek;obtain⟨x,y,rfl,rfl,qj⟩:=JP xD (QP);have zC:=aog (l:=l) (en:=en) (o:=o) (off:=f) (n:=ln);have zA:=amu (l:=l) (o:=o) (off:=f) (n:=ln);cases hs:mY l o f ln with
   |false=>
    rw [hs]at zC zA;exact⟨kF,kF,false,C _ (ax h1 (ax h2 (br h3 (aj zC (aY aL))))),R _ (ax h1 (ax h2 (br h3 (aj zA (aY aL))))),λh=>aX⟩
   |true=>
    rw [hs]at zC zA;have hi:ib o l.length=true:=by
     unfold mY at hs;exact Kv
    have dZ:ib o (cb l).length =true:=J6;have hp:=qj.rel.ptr;refine⟨bif x.ptr then kF else⟨false,false,[],(cQ l o).lo,(cQ l o).hi⟩,⟨false,false,[],(cQ l o).lo,(cQ l o).hi⟩,!x.ptr,C _ (ax h1 (ax h2 (br h3 (aj zC (bj (aH rfl (aH rfl (aw (c:=x.ptr) (λh=>af (gv)) λh=>aH dZ (aH dZ (af ?_)))))))))),R _ (ax h1 (ax h2 (br h3 (aj zA (bj (aH dZ (aH dZ (aH rfl (aH rfl (af ?_)))))))))),λh=> ?_⟩
    ·rw [h];show(0,[J [aq,aq,aa [],iI (gI (gA (cb l) o.toNat) 1),iI (gI (gA (cb l) o.toNat) 2)],cw])=_;rw [mj hi];rfl
    ·show(0,[J [aq,aq,aa [],iI (gI (gA (cb l) o.toNat) 1),iI (gI (gA (cb l) o.toNat) 2)],ak (!y.ptr)])=_;rw [mj hi,hp];rfl
    ·have:x.ptr=false:=by simpa using h
     rw [this];exact⟨vj rfl,I1 hi⟩
  |false=>
  cases h4:k==4 with
  |true=>
   have ek:=eq_of_beq h4;subst ek;obtain⟨x,y,rfl,rfl,qj⟩:=JP xD (QP);have hp:=qj.rel.ptr;have ht:=qj.rel.ku;cases ho:p==18 with
   |true=>exact⟨w5,w5,ku x,C _ (ax h1 (ax h2 (ax h3 (br h4 (br ho (aj Li (aH rfl (aH rfl (aj (AD x) aL))))))))),R _ (ax h1 (ax h2 (ax h3 (br h4 (br ho (aH rfl (aH rfl (aj (AB y) (af (by rw [ht];rfl)))))))))),λ_=>⟨vj rfl,I0 rfl⟩⟩
   |false=>
   cases hq:p==16 with
   |true=>exact⟨Ag,Ag,!x.ptr,C _ (ax h1 (ax h2 (ax h3 (br h4 (ax ho (aj RB (br hq (aH rfl (aH rfl aL))))))))),R _ (ax h1 (ax h2 (ax h3 (br h4 (ax ho (br hq (aH rfl (aH rfl (af (Aj)))))))))),λ_=>⟨vj rfl,I0 rfl⟩⟩
   |false=>
   cases HH:p==17 with
   |true=>exact⟨Ag,Ag,!x.ptr,C _ (ax h1 (ax h2 (ax h3 (br h4 (ax ho (aj RB (ax hq (br HH (aH rfl (aH rfl aL)))))))))),R _ (ax h1 (ax h2 (ax h3 (br h4 (ax ho (ax hq (br HH (aH rfl (aH rfl (af (Aj))))))))))),λ_=>⟨vj rfl,I0 rfl⟩⟩
   |false=>exact⟨Ag,Ag,false,C _ (ax h1 (ax h2 (ax h3 (br h4 (ax ho (aj RB (ax hq (ax HH aL)))))))),R _ (ax h1 (ax h2 (ax h3 (br h4 (ax ho (ax hq (ax HH aL))))))),λ_=>⟨vj rfl,I0 rfl⟩⟩
  |false=>
  cases h5:k==5 with
  |true=>
   have ek:=eq_of_beq h5;subst ek;obtain⟨x,y,x1,y1,rfl,rfl,qj,abw⟩:=P6 xD (aiP);have hb:=aDj (p:=p) qj.rel abw.rel;exact⟨(ly p x x1).1,(ly p x x1).1,(ly p x x1).2,C _ (ax h1 (ax h2 (ax h3 (ax h4 (br h5 (aH rfl (aH rfl (aH rfl (aH rfl (aj (aOT p x x1) aL)))))))))),R _ (ax h1 (ax h2 (ax h3 (ax h4 (br h5 (aH rfl (aH rfl (aH rfl (aH rfl (aj (aOS p y y1) (af (by rw [hb];rfl)))))))))))),λ_=>⟨aDk,I0 rfl⟩⟩
  |false=>
  cases h6:(bif k==6 then true else k==7)with
  |true=>
   have hk:(fu (.mk k p n o f ln lo hi L)).2 =2:=ak0;obtain⟨x,y,x1,y1,rfl,rfl,qj,abw⟩:=P6 xD (by rw [hk]at ar;omega);have I6:(k==2||k==3||k==12)=false:=ak0;have tQ:=ait k;have tP:=ais k;rw [h6]at tQ tP;have ht1:=qj.rel.ku;have xH:=abw.rel.ku;refine⟨w5,w5,yH x x1,C _ (ax h1 (ax h2 (ax h3 (ax h4 (ax h5 (aj tQ (aY (aj Li (aH rfl (aH rfl (aj (AD x) (aw (c:=ku x) (λh=>aH rfl (aH rfl (aj (AD x1) (af ?_)))) λh=>af ?_)))))))))))),R _ (ax h1 (ax h2 (ax h3 (ax h4 (ax h5 (aj tP (aY (aH rfl (aH rfl (aj (AB y) (aw (c:=ku y) (λh=>aH rfl (aH rfl (aj (AB y1) (af ?_)))) λh=>af ?_))))))))))),λ_=>⟨vj rfl,I0 I6⟩⟩
   ·unfold yH;rw [h];rfl
   ·unfold yH;rw [h];rfl
   ·unfold yH;rw [ht1,xH,h];rfl
   ·unfold yH;rw [ht1,h];rfl
  |false=>
  have tQ:=ait k;have tP:=ais k;rw [h6]at tQ tP;cases h8:k==8 with
  |true=>
   have ek:=eq_of_beq h8;subst ek;obtain⟨x,y,x1,y1,x2,y2,rfl,rfl,Bl,pS,HB⟩:=aCh xD (by have:(3:Int)=(xs.length:Int):=ar;omega);obtain⟨s,e1,e2⟩:=hE ol.len pS.l HB.l;obtain⟨t,e3,e4⟩:=aF8 ol.len pS.r HB.r;have hb:=aC9 pS.rel HB.rel;have ht:=Bl.rel.ku;refine⟨s,t,oR x1 x2&&ku x,C _ (ax h1 (ax h2 (ax h3 (ax h4 (ax h5 (aj tQ (bj (br h8 (aH rfl (aH rfl (aH rfl (aH rfl (aj e1 (aw (c:=oR x1 x2) (λh=>aH rfl (aH rfl (aj (AD x) (af ?_)))) λh=>af ?_)))))))))))))),R _ (ax h1 (ax h2 (ax h3 (ax h4 (ax h5 (aj tP (bj (br h8 (aH rfl (aH rfl (aH rfl (aH rfl (aj e3 (aw (c:=oR y1 y2) (λh=>aH rfl (aH rfl (aj (AB y) (af ?_)))) λh=>af ?_)))))))))))))),λh=> ?_⟩
   ·exact gv
   ·exact gv
   ·rw [hb,ht,h];rfl
   ·rw [hb,h];rfl
   ·rw [bM]at h;obtain⟨i1,i2⟩:=e2 h.1;obtain⟨i3,i4⟩:=e4 (by rw [<-hb];exact h.1);exact⟨⟨i1,i3,y9.rel pS.rel HB.rel i2 i4⟩,I0 rfl⟩
  |false=>
  cases h9:k==9 with
  |true=>
   have ek:=eq_of_beq h9;subst ek;obtain⟨x,y,rfl,rfl,qj⟩:=JP xD (QP);have hp:=qj.rel.ptr;refine⟨⟨false,false,[],lo,hi⟩,⟨false,false,[],lo,hi⟩,bif decide (-2147483648<=lo)then bif decide (hi<=2147483647)then bif decide (lo<=hi)then !x.ptr else false else false else false,C _ (ax h1 (ax h2 (ax h3 (ax h4 (ax h5 (aj tQ (bj (ax h8 (br h9 (aw (c:=decide (-2147483648<=lo)) (λa1=>aw (c:=decide (hi<=2147483647)) (λa2=>aw (c:=decide (lo<=hi)) (λa3=>aH rfl (aH rfl (af ?_))) λa3=>af ?_) λa2=>af ?_) λa1=>af ?_)))))))))),R _ (ax h1 (ax h2 (ax h3 (ax h4 (ax h5 (aj tP (bj (ax h8 (br h9 (aw (c:=decide (-2147483648<=lo)) (λa1=>aw (c:=decide (hi<=2147483647)) (λa2=>aw (c:=decide (lo<=hi)) (λa3=>aH rfl (aH rfl (af ?_))) λa3=>af ?_) λa2=>af ?_) λa1=>af ?_)))))))))),λ_=>⟨vj rfl,I0 rfl⟩⟩
   ·rw [a1,a2,a3];rfl
   ·rw [a1,a2,a3];rfl
   ·rw [a1,a2];rfl
   ·rw [a1];rfl
   ·rw [a1,a2,a3,hp];rfl
   ·rw [a1,a2,a3];rfl
   ·rw [a1,a2];rfl
   ·rw [a1];rfl
  |false=>
  cases jd:k==10 with
  |true=>
   have ek:=eq_of_beq jd;subst ek;obtain⟨x,y,x1,y1,rfl,rfl,Bl,pS⟩:=P6 xD (aiP);exact⟨⟨x1.ptr,false,x1.set,x1.lo,x1.hi⟩,⟨y1.ptr,false,y1.set,y1.lo,y1.hi⟩,true,C _ (ax h1 (ax h2 (ax h3 (ax h4 (ax h5 (aj tQ (bj (ax h8 (ax h9 (br jd (aH rfl (aH rfl (aH rfl (aH rfl aL)))))))))))))),R _ (ax h1 (ax h2 (ax h3 (ax h4 (ax h5 (aj tP (bj (ax h8 (ax h9 (br jd (aH rfl (aH rfl aL)))))))))))),λ_=>⟨⟨⟨pS.l.nd,pS.l.jz⟩,⟨pS.r.nd,pS.r.jz⟩,⟨pS.rel.ptr,rfl,pS.rel.lo,pS.rel.hi,pS.rel.set⟩⟩,I0 rfl⟩⟩
  |false=>
  cases lZ:k==11 with
  |true=>
   have e1:∀ls:List SO,decide (aA.ln (ls.map bU)<=n)=decide ((ls.length:Int)<=n):=λls=>by rw [dB]
   cases a1:decide (n<0)with
   |true=>exact⟨kF,kF,false,C _ (ax h1 (ax h2 (ax h3 (ax h4 (ax h5 (aj tQ (bj (ax h8 (ax h9 (ax jd (br lZ (br a1 aL)))))))))))),R _ (ax h1 (ax h2 (ax h3 (ax h4 (ax h5 (aj tP (bj (ax h8 (ax h9 (ax jd (br lZ (br a1 aL)))))))))))),λh=>aX⟩
   |false=>
   cases a2:decide ((la.length:Int)<=n)with
   |true=>exact⟨kF,kF,false,C _ (ax h1 (ax h2 (ax h3 (ax h4 (ax h5 (aj tQ (bj (ax h8 (ax h9 (ax jd (br lZ (ax a1 (br (by show decide (aA.ln (la.map bU)<=n)=true;rw [e1];exact a2) aL))))))))))))),R _ (ax h1 (ax h2 (ax h3 (ax h4 (ax h5 (aj tP (bj (ax h8 (ax h9 (ax jd (br lZ (ax a1 (br (by show decide (aA.ln (lb.map bU)<=n)=true;rw [e1,<-L3];exact a2) aL))))))))))))),λh=>aX⟩
   |false=>
    simp only [decide_eq_false_iff_not,Int.not_lt,Int.not_le]at a1 a2;obtain⟨j,rfl⟩:∃j:Nat,n=(j:Int):=⟨n.toNat,by omega⟩;have hj:la.length- 1- j<la.length:=by omega
    have iK:la.length- 1- j<lb.length:=by omega
    have hw:bw (bw (aA.ln (la.map bU)- 1)-(j:Int))=((la.length- 1- j:Nat):Int):=by
     rw [dB,jI (n:=(la.length:Int)- 1) (by omega) (by omega),jI (by omega) (by omega)];omega
    have Tf:bw (bw (aA.ln (lb.map bU)- 1)-(j:Int))=((la.length- 1- j:Nat):Int):=by
     rw [dB,<-L3,jI (n:=(la.length:Int)- 1) (by omega) (by omega),jI (by omega) (by omega)];omega
    have qx:=Bx.at hj iK;refine⟨⟨la[la.length- 1- j].ptr,false,la[la.length- 1- j].set,la[la.length- 1- j].lo,la[la.length- 1- j].hi⟩,⟨lb[la.length- 1- j].ptr,false,lb[la.length- 1- j].set,lb[la.length- 1- j].lo,lb[la.length- 1- j].hi⟩,true,C _ (ax h1 (ax h2 (ax h3 (ax h4 (ax h5 (aj tQ (bj (ax h8 (ax h9 (ax jd (br lZ (ax (c:=decide ((j:Int)<0)) (by simp) (ax (c:=decide (aA.ln (la.map bU)<=(j:Int))) (by rw [e1];simp;omega) (aH (c:=ib (bw (bw (aA.ln (la.map bU)- 1)-(j:Int))) (la.map bU).length) (by rw [hw];exact cN hj) (af ?_))))))))))))))),R _ (ax h1 (ax h2 (ax h3 (ax h4 (ax h5 (aj tP (bj (ax h8 (ax h9 (ax jd (br lZ (ax (c:=decide ((j:Int)<0)) (by simp) (ax (c:=decide (aA.ln (lb.map bU)<=(j:Int))) (by rw [e1];simp;omega) (aH (c:=ib (bw (bw (aA.ln (lb.map bU)- 1)-(j:Int))) (lb.map bU).length) (by rw [Tf];exact cN iK) (af ?_))))))))))))))),λ_=>⟨⟨⟨qx.l.nd,qx.l.jz⟩,⟨qx.r.nd,qx.r.jz⟩,⟨qx.rel.ptr,rfl,qx.rel.lo,qx.rel.hi,qx.rel.set⟩⟩,I0 (by rw [eq_of_beq lZ];rfl)⟩⟩
    ·show(0,[J (sT (jF (gA (la.map bU) (bw (bw (aA.ln (la.map bU)- 1)-(j:Int))).toNat)) [(1,aq)]),cw])=_;rw [hw,fK hj];rfl
    ·show(0,[J (sT (jF (gA (lb.map bU) (bw (bw (aA.ln (lb.map bU)- 1)-(j:Int))).toNat)) [(1,aq)]),cw])=_;rw [Tf,fK iK];rfl
  |false=>
  cases Ee:k==12 with
  |true=>
   have hb:E (λN _=>bO (FU CX EE N BI [nS l en,iI o,iI 0]) λ_ sj=>bif gB sj 0 then aR (ib o ((cb l).length))<|bif !(gB (gA (cb l) o.toNat) 3)then aR (ib o ((cb l).length))<|some (0,[J [cw,aq,aa [[iI o]],iI 0,iI 0],ak (gI (gA (cb l) o.toNat) 0==1)])else some (0,[J [cw,aq,aa [[iI o]],iI 0,iI 0],aq])else some (0,[J [cw,aq,aa [[iI o]],iI 0,iI 0],aq]))
    (0,[J (bU ⟨true,false,[o],0,0⟩),ak (ib o l.length&& !(cQ l o).ptr &&((cQ l o).size ==1))]):=by
    have hk:=QW (l:=l) (en:=en) (o:=o) (off:=0);refine aj hk (aw (c:=jw l o 0) (λhs=> ?_) λhs=>af ?_)
    ·have hi:ib o l.length=true:=by
      unfold jw at hs;exact Kv
     have dZ:ib o (cb l).length =true:=J6;exact akY
    ·have:(ib o l.length&& !(cQ l o).ptr &&((cQ l o).size ==1))=false:=by
      cases hi:ib o l.length with
      |false=>rfl
      |true=>
       cases hz:(cQ l o).size ==1 with
       |false=>simp
       |true=>
        have hz:=eq_of_beq hz;have hh:=jv.1 hi;have ha:decide (0<=o)=true:=by simpa using hh.1
        have hb:decide (o<(l.length:Int))=true:=by simpa using hh.2
        unfold jw at hs;rw [ha,hb,hz]at hs;cases hs
     exact fa
   have hr:bK Uq [jZ l lb en,J (aP (.mk k p n o f ln lo hi L))] (0,[ak (ib o l.length&& !(cQ l o).ptr &&((cQ l o).size ==1)),jZ l lb en,J (aP (.mk k p n o f ln lo hi L))]):=by
    refine bW ar4 ?_;refine aw (c:=decide (0<=o)) (λh1=> ?_) λh1=>af ?_
    ·refine aw (c:=decide (o<aA.ln (cb l))) (λh2=> ?_) λh2=>af ?_
     ·rw [dB]at h2;have hi:=sW h1 h2;have dZ:ib o (cb l).length =true:=J6;show E (λN _=>aR (ib o (cb l).length) (bif !(gB (gA (cb l) o.toNat) 3)then aR (ib o (cb l).length) (some (0,[ak (gI (gA (cb l) o.toNat) 0==1),_,_]))else _)) _;exact akY
     ·rw [dB]at h2;have:ib o l.length=false:=by
       cases hi:ib o l.length with
       |false=>rfl
       |true=>have:=(jv.1 hi).2;simp at h2;omega
      exact fa
    ·have:ib o l.length=false:=by
      cases hi:ib o l.length with
      |false=>rfl
      |true=>have:=(jv.1 hi).1;simp at h1;omega
     exact fa
   refine⟨⟨true,false,[o],0,0⟩,⟨true,false,[o],0,0⟩,ib o l.length&& !(cQ l o).ptr &&((cQ l o).size ==1),C _ (ax h1 (ax h2 (ax h3 (ax h4 (ax h5 (aj tQ (bj (ax h8 (ax h9 (ax jd (ax lZ (br Ee hb)))))))))))),R _ (ax h1 (ax h2 (ax h3 (ax h4 (ax h5 (aj tP (bj (ax h8 (ax h9 (ax jd (ax lZ (br Ee (aj hr aL))))))))))))),λh=> ?_⟩;rw [bM,bM]at h;have hv:SO.Inv l.length ⟨true,false,[o],0,0⟩:=⟨by simp,λx hx=>by simp at hx;subst hx;exact h.1.1⟩;exact⟨⟨hv,hv,rel_refl _⟩,I1 h.1.1⟩
  |false=>
  cases Mh:k==13 with
  |true=>
   have ek:=eq_of_beq Mh;subst ek;obtain⟨x,y,rfl,rfl,qj⟩:=JP xD (QP);have hq:=aCD (l:=l) qj.rel;have p1:=aNb (l:=l) (en:=en) (s:=x) (qj.l.le ol.len) qj.l.jz;have p2:=aNa (l:=l) (s:=y) (qj.r.le ol.len) qj.r.jz;rw [<-hq]at p2;exact⟨(pE l x).1,(pE l x).1,(pE l x).2,C _ (ax h1 (ax h2 (ax h3 (ax h4 (ax h5 (aj tQ (bj (ax h8 (ax h9 (ax jd (ax lZ (ax Ee (br Mh (aH rfl (aH rfl (aj p1 aL)))))))))))))))),R _ (ax h1 (ax h2 (ax h3 (ax h4 (ax h5 (aj tP (bj (ax h8 (ax h9 (ax jd (ax lZ (ax Ee (br Mh (aH rfl (aH rfl (aj p2 aL)))))))))))))))),λ_=>⟨vj aCC,I0 rfl⟩⟩
  |false=>
   exact⟨⟨false,false,[],0,32⟩,⟨false,false,[],0,32⟩,bif decide (0<=n)then decide (n<en)else false,C _ (ax h1 (ax h2 (ax h3 (ax h4 (ax h5 (aj tQ (bj (ax h8 (ax h9 (ax jd (ax lZ (ax Ee (ax Mh (aw (c:=decide (0<=n)) (λh=>af (gv)) λh=>af (gv))))))))))))))),R _ (ax h1 (ax h2 (ax h3 (ax h4 (ax h5 (aj tP (bj (ax h8 (ax h9 (ax jd (ax lZ (ax Ee (ax Mh (aw (c:=decide (0<=n)) (λh=>af (gv)) λh=>af (gv))))))))))))))),λ_=>⟨vj rfl,I0 (by rw [h2,h3,Ee];rfl)⟩⟩
end
end Go.Proofs.YtomkobcipaligaaGreatDoor
namespace Go.aA
def alS{p:Prop}(h:p:=by
 rw [uz,eQ];refine br (dx hi)<|aH (cN hi) ?_;rw [sX hi,ix hi bz.len];exact aj (hf e.L[i] (dy hi)).2 (aw (λpU=>af (h2 pU)) h3)):p:=h
def Gu{p:Prop}(h:p:=by have:=hw.gY;simp only [mx];omega):p:=h
def CQ{p:Prop}(h:p:=by rw [ey];exact ho):p:=h
def QO{p:Prop}(h:p:=by have:=hw.lg;simp only [mx];omega):p:=h
def ju{p:Prop}(h:p:=by erw [hc];rfl):p:=h
def ZG{p:Prop}(h:p:=by refine aj hi.diag (bj (af ?_));erw [hc];rfl):p:=h
def ZF{p:Prop}(h:p:=by refine aj hi.diag (aY (af ?_));erw [hc];rfl):p:=h
def ajr{p:Prop}(h:p:=by
 rw [show decide (0<=(i:Int))=true by simp]at this;exact this):p:=h
def ai8{p:Prop}(h:p:=by have:=jv.1 ho;rw [ey];simp;omega):p:=h
end Go.aA
namespace Go.aA
def dL:=@Bool.not_eq_false'
def X9:=@Classical.axiomOfChoice
end Go.aA
namespace Go.Proofs.YtomkobcipaligaaGreatDoor
open Go Go.aA
section
variable{i o:Int}
theorem aFQ{e:CE}(h:Hj e=true):nn e<=64:=by unfold Hj at h;simp at h;omega
theorem S4(hE:kO){l:List OB}(ol:OL l)(en:Int)(e:CE)(bz:e.Ok):∃s t b,
 Ev Nz [nS l en,J (aP e)] (0,[J (bU s),ak b])∧Ev Cw [jZ l [] en,J (aP e)] (0,[J (bU t),ak b])∧(b=true->RI l.length s t∧xP l.length e):=by
 obtain⟨n',hw,_⟩:=aEi e bz 0 256 (by omega) (by omega) (by omega) (by omega);have hz:=aFt e bz 256 64 (by omega) (by omega) (by omega) (by omega);have e1:(decide ((jy e:Int)<=256)&&decide ((0:Int)+nn e<=64))=Hj e:=by unfold Hj;simp
 have e2:(decide ((jy e:Int)<=256)&&decide ((nn e:Int)<=64))=Hj e:=rfl;rw [e1]at hw;rw [e2]at hz;cases h:Hj e with
 |false=>
  rw [h]at hw hz;refine⟨kF,kF,false,bx aeu ?_,bx ahC ?_,λh=>aX⟩
  ·rw [eQ];exact aj hw (aY aL)
  ·rw [eQ];exact aj hz (aY aL)
 |true=>
  rw [h]at hw hz;obtain⟨s,t,b,h1,h2,h3⟩:=aFo hE ol en e bz [] [] .nil (by have:=aFQ h;simp;omega);refine⟨s,t,b,bx aeu ?_,bx ahC ?_,h3⟩
  ·rw [eQ];exact aj hw (bj (aj h1 aL))
  ·rw [eQ];exact aj hz (ax (c:=decide ((jy e:Int)<0)) (by simp) (aj h2 aL))
structure WH where
 task:Int
 marks:cW
 ll:cW
 lg:cW
 gY:cW
 loops:cW
 ji:Bool
 hY:Bool
 wO:Bool
 k8:Int
 deep:Int
structure WH.Ok(w:WH):Prop where
 marks:w.marks.length<=1000
 ll:w.ll.length<=1000
 lg:w.lg.length<=1000
 gY:w.gY.length<=1000
 loops:w.loops.length<=1000
structure RO where
 gL:Int
 task:Int
 entry:Int
variable{l:List RO}
def tj(r:RO):bl:=[iI r.gL,iI r.task,iI r.entry]
def lC:RO:=⟨-1,-1,-1⟩
abbrev bf(l:List RO):aW:=l.map tj
def eD(l:List RO)(i:Int):RO:=l.getD i.toNat lC
theorem Kz(h:ib i l.length=true):gA (bf l) i.toNat=tj (eD l i):=by
 have:=jv.1 h;have h2:i.toNat<l.length:=by omega
 rw [sQ h2];simp [eD,h2]
theorem Pw(h:ib i l.length=true):eD l i∈l:=by
 have:=jv.1 h;have h2:i.toNat<l.length:=by omega
 simp only [eD,lN,dD h2,pb];exact dy h2
def RO.Ok(r:RO):Prop:=r=lC∨0<=r.gL∨0<=r.task
abbrev bB(j:Nat)(w:WH):bl:=[.ptr j 0 0,iI w.task,aa (ints w.marks),aa (ints w.ll),aa (ints w.lg),aa (ints w.gY),aa (ints w.loops),ak w.ji,ak w.hY,ak w.wO,iI w.k8,iI w.deep]
abbrev dM(i j:Nat)(p:PG)(left:Int):bl:=[bJ (cb p.bu),iI (-1),bJ (cb p.bu),iI p.eL,fZ (p.tasks.map cF),od (p.dw.map fA),.aC i,iI left,.mp j]
abbrev bI(p:PG)(ts:List TK)(ro:List RO)(w:WH):AV:= J [bJ (cb p.bu),iI p.eL,fZ (ts.map cF),od (p.dw.map fA),cG (bf ro),iI w.task,aa (ints w.marks),aa (ints w.ll),aa (ints w.lg),aa (ints w.gY),aa (ints w.loops),ak w.ji,ak w.hY,ak w.wO,iI w.k8,iI w.deep]
def tk0:TK:=⟨0,[],.mk ⟨0,0,0,0,0,0,false,false,false,false,false,0,[],[],[],[],[]⟩ [] [] [] [],0⟩
def ml(l:List TK)(i:Int):TK:=l.getD i.toNat tk0
structure aaK(ps ts:List TK):Prop where
 len:ts.length=ps.length
 au:∀i,(ml ts i).au =(ml ps i).au
structure CT(p:PG)(ts:List TK)(ro:List RO):Prop where
 same:aaK p.tasks ts
 ok:p.Ok
 ol:OL p.bu
 len:ro.length=p.bu.length
 ro:∀r∈ro,r.Ok
 eL:p.eL<=64
 aFY:p.tasks.length<=32
 ent:∀t∈p.tasks,∀e∈t.au,(∀x∈e.ins,ib x p.bu.length=true)∧(∀x∈e.outs,ib x p.bu.length=true)∧e.ins.length<=8∧e.outs.length<=8
section
variable {p:PG} {ts:List TK} {ro:List RO} (ct:CT p ts ro) {w:WH} (hw:w.Ok) {cn:aW} (hc:az (au cn)=cn) {lf:Int}
def iO(ro:List RO)(w:WH)(o:Int):Bool:=
 bif decide (0<=(eD ro o).gL)then dN w.gY (eD ro o).gL else bif decide ((eD ro o).task <0)then true else bif (eD ro o).task ==w.task then dN w.lg (eD ro o).entry else false
include hw hc in
theorem KX(ho:ib o ro.length=true):Ev BO [J (bB 0 w),iI o,J (dM 1 2 p lf),ah (bf ro),.ab 0 cn] (0,[ak (iO ro w o),J (dM 1 2 p lf),ah (bf ro),.ab 0 cn]):=by
 have fv:ib o (bf ro).length =true:=CQ;refine bx awo (aH fv (aH (ai8) ?_));rw [hc,Kz ho];refine aw (c:=decide (0<=(eD ro o).gL)) (λh1=>aj (u9 (eD ro o).gL (Gu)) (af ?_)) λh1=>aw (c:=decide ((eD ro o).task <0)) (λh2=>af ?_) λh2=>aw (c:=(eD ro o).task ==w.task) (λh3=>aj (u9 (eD ro o).entry (QO)) (af ?_)) λh3=>af ?_
 ·simp only [iO,h1,cf];rfl
 ·simp only [iO,h1,h2,cf,cE];rfl
 ·simp only [iO,h1,h2,h3,cf,cE];rfl
 ·simp only [iO,h1,h2,h3,cE];rfl
include hw in
theorem Si(ho:ib o ro.length=true):Ev E6 [bI p ts ro w,iI o] (0,[ak (iO ro w o)]):=by
 have fv:ib o (bf ro).length =true:=CQ;refine bx azp (aH fv ?_);erw [Kz ho];refine aw (c:=decide (0<=(eD ro o).gL)) (λh1=>aj (uL (eD ro o).gL (Gu)) (af ?_)) λh1=>aw (c:=decide ((eD ro o).task <0)) (λh2=>af ?_) λh2=>aw (c:=(eD ro o).task ==w.task) (λh3=>aj (uL (eD ro o).entry (QO)) (af ?_)) λh3=>af ?_
 ·simp only [iO,h1,cf];rfl
 ·simp only [iO,h1,h2,cf,cE]
 ·simp only [iO,h1,h2,h3,cf,cE];rfl
 ·simp only [iO,h1,h2,h3,cE]
def uB(ro:List RO)(w:WH)(e:CE):Bool:=
 bif e.kind==2 then iO ro w e.O else bif e.kind==3 then iO ro w e.O else bif e.kind==12 then((eD ro e.O).gL == -1)&&(((eD ro e.O).task == -1)&&(((eD ro e.O).entry == -1)&&true))else true
include ct hw hc in
theorem alo:∀e:CE,e.Ok->xP p.bu.length e->∃b,
 Ev EM [J (bB 0 w),J (aP e),J (dM 1 2 p lf),ah (bf ro),.ab 0 cn] (0,[ak b,J (dM 1 2 p lf),ah (bf ro),.ab 0 cn])∧
 Ev uZ [bI p ts ro w,J (aP e)] (0,[ak b]):=by
 refine CE.ind λe ih bz ef=> ?_;have hr:(e.kind==2||e.kind==3||e.kind==12)=true->ib e.O ro.length=true:=λh=>by
  rw [ct.len];cases ef with|mk _ h1 _=>exact h1 h
 have kv:∀y∈e.L,xP p.bu.length y:=by cases ef with|mk _ _ h1=>exact h1
 have hJ:bK U4 [J (dM 1 2 p lf),ah (bf ro),.ab 0 cn,J (bB 0 w),J (aP e)]
  (bif uB ro w e then(0,[J (dM 1 2 p lf),ah (bf ro),.ab 0 cn,J (bB 0 w),J (aP e)])else(1,[aq,J (dM 1 2 p lf),ah (bf ro),.ab 0 cn,J (bB 0 w),J (aP e)])):=by
  refine bW atr ?_;rw [hc,Lb,abT,eQ];refine aw (λh1=> ?_) λh1=>aw (λh2=> ?_) λh2=>aw (λh3=> ?_) λh3=>af ?_
  ·refine aj (KX hw hc (hr (by rw [h1];rfl))) ?_;erw [hc];refine aw (c:= !iO ro w e.O) (λh=>af ?_) λh=>af ?_
   ·simp only [dX]at h;simp only [uB,h1,h,cf,cE];rfl
   ·simp only [dL]at h;simp only [uB,h1,h,cf];rfl
  ·refine aj (KX hw hc (hr (by rw [h2];simp))) ?_;erw [hc];refine aw (c:= !iO ro w e.O) (λh=>af ?_) λh=>af ?_
   ·simp only [dX]at h;simp only [uB,h1,h2,h,cf,cE];rfl
   ·simp only [dL]at h;simp only [uB,h1,h2,h,cf,cE];rfl
  ·have ho:=hr (by rw [h3];simp);have fv:ib e.O (bf ro).length =true:=CQ;refine aH fv (aH (ai8) ?_);rw [Kz ho];refine aw (c:= !(((eD ro e.O).gL == -1)&&(((eD ro e.O).task == -1)&&(((eD ro e.O).entry == -1)&&true)))) (λh=>af ?_) λh=>af ?_
   ·simp only [dX]at h;simp only [uB,h1,h2,h3,h,cf,cE];rfl
   ·simp only [dL]at h;simp only [uB,h1,h2,h3,h,cf,cE];rfl
  ·simp only [uB,h1,h2,h3,cf,cE];rfl
 have U:∀r,(uB ro w e=false->(0,[aq])=r)->(uB ro w e=true->E (λN _=>bO (Ip (FU CX EE N) N N [iI 0,bI p ts ro w,J (aP e)]) λq6 o6=>bif Nat.beq q6 0 then some (0,[ak (gB o6 0)])else some (0,[cw])) r)->Ev uZ [bI p ts ro w,J (aP e)] r:=by
  intro r hn hy;clear hJ ih bz ef kv;obtain⟨k,op,n,o,f,ln,lo,hi,L⟩:=e;have hu:uB ro w (.mk k op n o f ln lo hi L)=bif k==2 then iO ro w o else bif k==3 then iO ro w o else bif k==12 then((eD ro o).gL == -1)&&(((eD ro o).task == -1)&&(((eD ro o).entry == -1)&&true))else true:=rfl;refine bx ayC (xh awd (sM (c:=k==2) (λh1=> ?_) λh1=>sM (c:=k==3) (λh2=> ?_) λh2=>mF (aY (xh Ve (sM (c:=k==12) (λh3=> ?_) λh3=>mF (aY (hy ?_)))))))
  ·refine ahJ (Si hw (hr (by rw [show(CE.mk k op n o f ln lo hi L).kind =k from rfl,h1];rfl))) (sM (c:= !iO ro w o) (λh=>mF (bj (af (hn ?_)))) λh=>mF (aY (xh Ve (Kl (c:=k==12) (Zk) (mF (aY (hy ?_)))))))
   ·simp only [dX]at h;rw [hu,h1,h];rfl
   ·simp only [dL]at h;rw [hu,h1,h];rfl
  ·refine ahJ (Si hw (hr (by rw [show(CE.mk k op n o f ln lo hi L).kind =k from rfl,h2];simp))) (sM (c:= !iO ro w o) (λh=>mF (bj (af (hn ?_)))) λh=>mF (aY (xh Ve (Kl (c:=k==12) (by rw [eq_of_beq h2];rfl) (mF (aY (hy ?_)))))))
   ·simp only [dX]at h;rw [hu,h1,h2,h];rfl
   ·simp only [dL]at h;rw [hu,h1,h2,h];rfl
  ·have ho:ib o ro.length=true:=hr (by rw [show(CE.mk k op n o f ln lo hi L).kind =k from rfl,h3];simp);have fv:ib o (bf ro).length =true:=CQ;refine F4 fv ?_;erw [Kz ho];have kV:=ct.ro _ (Pw ho);refine sM (c:=decide (0<=(eD ro o).gL)) (λh=>mF (bj (af (hn ?_)))) λh=>F4 fv (sM (c:=decide (0<=(eD ro o).task)) (λh'=>mF (bj (af (hn ?_)))) λh'=>mF (aY (hy ?_)))
   ·have:((eD ro o).gL == -1)=false:=by simp at h⊢;omega
    rw [hu,h1,h2,h3,this];rfl
   ·have:((eD ro o).task == -1)=false:=by simp at h'⊢;omega
    rw [hu,h1,h2,h3,this];simp
   ·rcases kV with kV|kV|kV
    ·rw [hu,h1,h2,h3,kV];rfl
    ·simp at h;omega
    ·simp at h';omega
  ·rw [hu,h1,h2,h3];rfl
 cases hu:uB ro w e with
 |false=>
  rw [hu]at hJ;refine⟨false,bx adM ?_,U _ (λ_=>rfl) (λh=>by rw [hu]at h;cases h)⟩;rw [hc,eQ];refine aj hJ (bj (af ?_));exact ju
 |true=>
  rw [hu]at hJ;have aav:∀y,∃b,y∈e.L->(Ev EM [J (bB 0 w),J (aP y),J (dM 1 2 p lf),ah (bf ro),.ab 0 cn] (0,[ak b,J (dM 1 2 p lf),ah (bf ro),.ab 0 cn])∧Ev uZ [bI p ts ro w,J (aP y)] (0,[ak b])):=λy=>by
   by_cases hy:y∈e.L
   ·obtain⟨b,hb⟩:=ih y hy (bz.uH hy) (kv y hy);exact⟨b,λ_=>hb⟩
   ·exact⟨true,λh=>absurd h hy⟩
  have hf:=X9 aav;obtain⟨f,hf⟩:=hf;have k1:=scan (l:=e.L) (p:=λy=> !f y) (hit:=λi=>(0,[iI (i:Int),J (bB 1 w),J (dM 2 3 p lf),ah (bf ro),.ab 0 cn])) (done:=(1,[J (bB 1 w),J (dM 2 3 p lf),ah (bf ro),.ab 0 cn]))
   (LF:=λi N m=>Eo (FU CX EE N) N m [aT (e.L.map aP),iI (ln (e.L.map aP)),iI (i:Int),J (bB 1 w),J (dM 2 3 p lf),ah (bf ro),.ab 0 cn])
   (bD ab7 (ax dY (af (yo))))
   λi hi r h2 h3=>bD ab7<|br (dx hi)<|aH (cN hi)<|by
    rw [hc,sX hi,ix hi bz.len];have q:Ev UR [J (aP e.L[i]),J (bB 1 w),J (dM 2 3 p lf),ah (bf ro),.ab 0 cn] (0,[ak (!f e.L[i]),J (bB 1 w),J (dM 2 3 p lf),ah (bf ro),.ab 0 cn]):=by
     refine bx atx ?_;rw [hc,eQ];refine aj (hf e.L[i] (dy hi)).1 (af ?_);exact ju
    refine aj q ?_;erw [hc];exact aw (λpU=>af (h2 pU)) h3
  have k2:=pq (l:=e.L) (p:=λy=> !f y) (hit:=(0,[aq,bI p ts ro w,J (aP e)])) (done:=(1,[bI p ts ro w,J (aP e)]))
   (LF:=λi N m=>Ip (FU CX EE N) N m [iI (i:Int),bI p ts ro w,J (aP e)])
   (bD adt (ax (Zn) (af (by rw [eQ];rfl))))
   λi hi r h2 h3=>bD adt<|alS
  have fin:∀i:Int,bP Eo [aT (e.L.map aP),iI (ln (e.L.map aP)),iI 0,J (bB 1 w),J (dM 2 3 p lf),ah (bf ro),.ab 0 cn] (0,[iI i,J (bB 1 w),J (dM 2 3 p lf),ah (bf ro),.ab 0 cn])∨(i= -1∧bP Eo [aT (e.L.map aP),iI (ln (e.L.map aP)),iI 0,J (bB 1 w),J (dM 2 3 p lf),ah (bf ro),.ab 0 cn] (1,[J (bB 1 w),J (dM 2 3 p lf),ah (bf ro),.ab 0 cn]))->
   Ev EM [J (bB 0 w),J (aP e),J (dM 1 2 p lf),ah (bf ro),.ab 0 cn] (0,[ak (!decide (0<=i)),J (dM 1 2 p lf),ah (bf ro),.ab 0 cn]):=λi hi=>by
   have a1:Ev TM [aT (e.L.map aP),J (bB 1 w),J (dM 2 3 p lf),ah (bf ro),.ab 0 cn] (0,[iI i,J (bB 1 w),J (dM 2 3 p lf),ah (bf ro),.ab 0 cn]):=by
    refine bx ap2 ?_;rw [hc];rcases hi with hi|⟨rfl,hi⟩
    ·exact ZF
    ·exact ZG
   have a2:Ev TH [aT (e.L.map aP),J (bB 1 w),J (dM 2 3 p lf),ah (bf ro),.ab 0 cn] (0,[ak (decide (0<=i)),J (bB 1 w),J (dM 2 3 p lf),ah (bf ro),.ab 0 cn]):=by
    refine bx apL ?_;rw [hc];refine aj a1 (af ?_);erw [hc];rfl
   refine bx adM ?_;rw [hc,eQ];refine aj hJ (aY ?_);erw [hc,uz];refine aj a2 (af ?_);erw [hc];rfl
  have Tb:Ev uZ [bI p ts ro w,J (aP e)] (0,[ak (!(e.L.any λy=> !f y))]):=U _ (λh=>by rw [hu]at h;cases h) λ_=>aj k2.diag (by cases(e.L.any λy=> !f y)<;>exact aL);rcases k1 with⟨q1,q2⟩|⟨q1,i,_,q2⟩
  ·rw [q1]at Tb;exact⟨true,fin (-1) (.inr ⟨rfl,q2⟩),Tb⟩
  ·rw [q1]at Tb;refine⟨false,?_,Tb⟩;have:=fin (i:Int) (.inl q2);exact ajr
end
end
end Go.Proofs.YtomkobcipaligaaGreatDoor
namespace Go.aA
def gr{p:Prop}(h:p:=by exact bj aL):p:=h
def C9{p:Prop}(h:p:=by refine bj (af ?_);erw [hc];rfl):p:=h
def QS{p:Prop}(h:p:=by
 erw [hc];exact aw (λpU=>af (q1 pU)) q2):p:=h
def ajt{p:Prop}(h:p:=by
 rw [hc,eQ];refine aj h1 (bj (af ?_));erw [hc];rfl):p:=h
def Zq{p:Prop}(h:p:=by rw [eQ];exact aj h2 (bj aL)):p:=h
end Go.aA
namespace Go.Proofs.YtomkobcipaligaaGreatDoor
open Go Go.aA
section
variable{b:Bool}{e:CE}{s:SO}{l:cW}
theorem KC{α:Type}{l:List α}{p:α->Bool}{LF IX CT:Nat->Nat->Option UO}{st:bl}
 (h:(l.any p=false∧E LF (1,st))∨(l.any p=true∧∃i:Nat,i<l.length∧E LF (0,iI (i:Int)::st)))
 (h1:∀i:Int,E LF (0,iI i::st)->E IX (0,iI i::st)) (h2:E LF (1,st)->E IX (0,iI (-1)::st)) (h3:∀i:Int,E IX (0,iI i::st)->E CT (0,ak (decide (0<=i))::st)):
 E CT (0,ak (l.any p)::st):=by
 rcases h with⟨h,q⟩|⟨h,i,_,q⟩
 ·rw [h];exact h3 _ (h2 q)
 ·rw [h];have:=h3 _ (h1 _ q);exact ajr
section
variable {p:PG} {ts:List TK} {ro:List RO} (ct:CT p ts ro) {w:WH} (hw:w.Ok) {cn:aW} (hc:az (au cn)=cn) {lf:Int} (hE:kO)
abbrev fR(p:PG)(ro:List RO)(lf:Int)(cn:aW):bl:=[J (dM 1 2 p lf),ah (bf ro),.ab 0 cn]
include ct hw hc hE in
theorem GA(e:CE)(bz:e.Ok):∃s t b,
 Ev xV [J (bB 0 w),J (aP e),J (dM 1 2 p lf),ah (bf ro),.ab 0 cn] (0,J (bU s):: ak b::fR p ro lf cn)∧
 Ev BW [bI p ts ro w,J (aP e)] (0,[J (bU t),ak b])∧(b=true->RI p.bu.length s t):=by
 obtain⟨s,t,b,h1,h2,h3⟩:=S4 hE ct.ol (-1) e bz;cases b with
 |false=>
  refine⟨s,t,false,bx Na ?_,bx aeQ ?_,λh=>aX⟩
  ·rw [hc,eQ];exact aj h1 (bj aL)
  ·exact Zq
 |true=>
  obtain⟨ri,ef⟩:=h3 rfl;obtain⟨b,u1,u2⟩:=alo ct hw hc (lf:=lf) e bz ef;refine⟨s,t,b,bx Na ?_,bx aeQ ?_,λ_=>ri⟩
  ·rw [hc,eQ];refine aj h1 (aY (aj u1 (af ?_)));exact ju
  ·rw [eQ];refine aj h2 (aY (aj u2 aL))
include ct hw hc hE in
theorem Ru(e:CE)(bz:e.Ok):∃b,Ev H8 [J (bB 0 w),J (aP e),J (dM 1 2 p lf),ah (bf ro),.ab 0 cn] (0,ak b::fR p ro lf cn)∧Ev zL [bI p ts ro w,J (aP e)] (0,[ak b]):=by
 obtain⟨s,t,b,h1,h2,h3⟩:=GA ct hw hc (lf:=lf) hE e bz;cases b with
 |false=>
  refine⟨false,bx acR ?_,bx ado ?_⟩
  ·exact ajt
  ·exact Zq
 |true=>
  have ht:=(h3 rfl).rel.ku;refine⟨ku s,bx acR ?_,bx ado ?_⟩
  ·rw [hc,eQ];refine aj h1 (aY (aj (AD s) (af ?_)));erw [hc];rfl
  ·rw [eQ];exact aj h2 (aY (aj (AB t) (af (by rw [ht];rfl))))
include ct hw hc hE in
theorem Sa(e:CE)(bz:e.Ok):∃b,Ev wF [J (bB 0 w),J (aP e),J (dM 1 2 p lf),ah (bf ro),.ab 0 cn] (0,ak b::fR p ro lf cn)∧Ev sF [bI p ts ro w,J (aP e)] (0,[ak b]):=by
 obtain⟨s,t,b,h1,h2,h3⟩:=GA ct hw hc (lf:=lf) hE e bz;cases b with
 |false=>
  refine⟨false,bx adp ?_,bx ad7 ?_⟩
  ·exact ajt
  ·exact Zq
 |true=>
  have ht:=(h3 rfl).rel.ptr;refine⟨!s.ptr,bx adp ?_,bx ad7 ?_⟩
  ·rw [hc,eQ];refine aj h1 (aY (af ?_));erw [hc];rfl
  ·rw [eQ];exact aj h2 (aY (af (by rw [ht];rfl)))
include ct hc in
theorem aGo(hs:s.Inv p.bu.length)(hl:l.length<=mx)(hr:∀x∈l,ib x p.bu.length=true):
 Ev TN [aa (ints l),J (bU s),J (bB 2 w),J (dM 3 4 p lf),ah (bf ro),.ab 0 cn] (0,[ak (l.any λo=> !iW s (cQ p.bu o)),J (bU s),J (bB 2 w),J (dM 3 4 p lf),ah (bf ro),.ab 0 cn]):=by
 have hsm:=hs.le ct.ol.len;refine KC (st:=[J (bU s),J (bB 2 w),J (dM 3 4 p lf),ah (bf ro),.ab 0 cn]) (LF:=λN m=>H3 (FU CX EE N) N m [aa (ints l),iI (ln (ints l)),iI 0,J (bU s),J (bB 2 w),J (dM 3 4 p lf),ah (bf ro),.ab 0 cn])
  (IX:=λN _=>FU CX EE N TT [aa (ints l),J (bU s),J (bB 2 w),J (dM 3 4 p lf),ah (bf ro),.ab 0 cn])
  (scan (LF:=λi N m=>H3 (FU CX EE N) N m [aa (ints l),iI (ln (ints l)),iI (i:Int),J (bU s),J (bB 2 w),J (dM 3 4 p lf),ah (bf ro),.ab 0 cn]) ?_ λi hi r q1 q2=> ?_) (λi hi=> ?_) (λhi=> ?_) λi hi=> ?_
 ·exact bD acd (ax dY (af (yo)))
 ·refine bD acd (br (dx hi) (aH (cN hi) ?_));rw [hc,fK hi,ix hi hl];have hx:=hr l[i] (dy hi);have q:Ev Vb [iI l[i],J (bU s),J (bB 2 w),J (dM 3 4 p lf),ah (bf ro),.ab 0 cn] (0,[ak (!iW s (cQ p.bu l[i])),J (bU s),J (bB 2 w),J (dM 3 4 p lf),ah (bf ro),.ab 0 cn]):=by
   refine bx aum (aH (by show ib l[i] (cb p.bu).length =true;rw [py];exact hx) ?_);erw [hc,mj hx];exact aj (aOD hsm (ct.ol.ok (qH hx))) aL
  refine aj q ?_;exact QS
 ·refine bx acq ?_;rw [hc];exact ZF
 ·refine bx acq ?_;rw [hc];exact ZG
 ·refine bx ap3 ?_;rw [hc];refine aj hi (af ?_);erw [hc];rfl
def fitAll(p:PG)(s:SO)(b:Bool)(l:cW):Bool:=b&& !(l.any λo=> !iW s (cQ p.bu o))
include ct hc in
theorem SB(h:Ev xV [J (bB 0 w),J (aP e),J (dM 1 2 p lf),ah (bf ro),.ab 0 cn] (0,J (bU s):: ak b::fR p ro lf cn))(hs:b=true->s.Inv p.bu.length)(hl:l.length<=mx)(hr:∀x∈l,ib x p.bu.length=true):
 Ev zN [J (bB 0 w),J (aP e),aa (ints l),J (dM 1 2 p lf),ah (bf ro),.ab 0 cn] (0,ak (fitAll p s b l)::fR p ro lf cn):=by
 refine bx awp ?_;rw [hc,eQ];refine aj h ?_;cases b with
 |false=>exact C9
 |true=>
  refine aY ?_;erw [hc];refine aj (aGo ct hc (hs rfl) hl hr) (af ?_);erw [hc];rfl
include ct in
theorem SA{t:SO}(h:Ev BW [bI p ts ro w,J (aP e)] (0,[J (bU t),ak b]))(hs:b=true->t.Inv p.bu.length){o:Int}(ho:ib o p.bu.length=true):
 Ev BK [bI p ts ro w,J (aP e),iI o] (0,[ak (b&&iW t (cQ p.bu o))]):=by
 refine bx avj ?_;rw [eQ];refine aj h ?_;cases b with
 |false=>exact gr
 |true=>
  refine aY (aH (by show ib o (cb p.bu).length =true;rw [py];exact ho) ?_);erw [mj ho];exact aj (aOC ((hs rfl).le ct.ol.len) (ct.ol.ok (qH ho))) aL
end
end
end Go.Proofs.YtomkobcipaligaaGreatDoor
namespace Go.aA
def QK{p:Prop}(h:p:=by have:=hw.loops;simp only [mx];omega):p:=h
def QD{p:Prop}(h:p:=by unfold qp;rw [hk,hg];rfl):p:=h
def ai6{p:Prop}(h:p:=by rw [this];unfold mu rk rj rh;rw [k1,k2,eq_of_beq k2];rfl):p:=h
def aiS{p:Prop}(h:p:=by rw [this];unfold mu rk rj rh;rw [k1,eq_of_beq k1];rfl):p:=h
end Go.aA
namespace Go.Proofs.YtomkobcipaligaaGreatDoor
open Go Go.aA
theorem wY(e:CE):nL (gA ([e].map aP) 0)=aP e:=eQ e
structure PlR(n:Nat)(k O:Int)(l l':cW):Prop where
 mem:∀x,x∈l ↔ x∈l'
 jz:∀x∈l,ib x n=true
 len:l.length<=mx
 aoJ:l'.length<=mx
 one:k≠3->l=[O]∧l'=[O]
section
variable {p:PG} {ts:List TK} {ro:List RO} (ct:CT p ts ro) {w:WH} (hw:w.Ok) {cn:aW} (hc:az (au cn)=cn) {lf:Int} (hE:kO)
include hw hc in
theorem aNh{l:cW}(hl:l.length<=mx):
 Ev Ms [aa (ints l),J (bB 1 w),J (dM 2 3 p lf),ah (bf ro),.ab 0 cn] (0,[ak (l.any λo=>dN w.loops o),J (bB 1 w),J (dM 2 3 p lf),ah (bf ro),.ab 0 cn]):=by
 refine KC (st:=[J (bB 1 w),J (dM 2 3 p lf),ah (bf ro),.ab 0 cn]) (LF:=λN m=>HZ (FU CX EE N) N m [aa (ints l),iI (ln (ints l)),iI 0,J (bB 1 w),J (dM 2 3 p lf),ah (bf ro),.ab 0 cn])
  (IX:=λN _=>FU CX EE N TO [aa (ints l),J (bB 1 w),J (dM 2 3 p lf),ah (bf ro),.ab 0 cn])
  (scan (LF:=λi N m=>HZ (FU CX EE N) N m [aa (ints l),iI (ln (ints l)),iI (i:Int),J (bB 1 w),J (dM 2 3 p lf),ah (bf ro),.ab 0 cn]) ?_ λi hi r q1 q2=> ?_) (λi hi=> ?_) (λhi=> ?_) λi hi=> ?_
 ·exact bD ab9 (ax dY (af (yo)))
 ·refine bD ab9 (br (dx hi) (aH (cN hi) ?_));rw [hc,fK hi,ix hi hl];have q:Ev UC [iI l[i],J (bB 1 w),J (dM 2 3 p lf),ah (bf ro),.ab 0 cn] (0,[ak (dN w.loops l[i]),J (bB 1 w),J (dM 2 3 p lf),ah (bf ro),.ab 0 cn]):=by
   refine bx asR ?_;rw [hc];exact aj (u9 (l:=w.loops) l[i] (QK)) aL
  refine aj q ?_;exact QS
 ·refine bx acg ?_;rw [hc];exact ZF
 ·refine bx acg ?_;rw [hc];exact ZG
 ·refine bx apO ?_;rw [hc];refine aj hi (af ?_);erw [hc];rfl
def mu(k:Int):Int:=bif k==1 then 0 else 1
abbrev K0(p:PG)(lf:Int):AV:= J (dM 1 2 p lf)
noncomputable abbrev Y7 (p:PG) (ro:List RO) (w:WH) (lf:Int) (cn:aW) (q:PL) (N:Nat):Option UO:=
 bO (BE (FU CX EE N) N [iI (mu q.kind),K0 p lf,ah (bf ro),.ab 0 cn,J (bB 0 w),J (c5 q),J [aq,aq,.aC 6,iI 0,iI 0],aa []]) λq4 o4=>bif Nat.beq q4 0 then bO (MI (FU CX EE N) N [J (sT (aF (gC o4 0)) aM),ah (gR o4 1),.ab 0 (az (au (gR o4 2))),J (sT (ba (gC o4 3)) bF),J (No (gC o4 4)),J (jF (gC o4 5))]) λmO cV=>bif Nat.beq mO 0 then bO (FU CX EE N Ms [aa (gR cV 0),J (sT (ba (gC cV 4)) gz),J (sT (aF (gC cV 1)) gw),ah (gR cV 2),.ab 0 (az (au (gR cV 3)))]) λ_ cX=>some (0,[aa (gR cV 0),ak (!(gB cX 0)),J (sT (aF (gC cX 2)) aM),ah (gR cX 3),.ab 0 (az (au (gR cX 4)))])else some (0,[aa (gR cV 7),ak (gB cV 0),J (sT (aF (gC cV 1)) aM),ah (gR cV 2),.ab 0 (az (au (gR cV 3)))])else some (0,[aa (gR o4 7),ak (gB o4 0),J (sT (aF (gC o4 1)) aM),ah (gR o4 2),.ab 0 (az (au (gR o4 3)))])
def rk(q:PL):Int:=bif q.kind==3 then 0 else q.O
def rj(q:PL):Int:=bif q.kind==3 then 0 else q.off
def rh(q:PL):Int:=bif q.kind==2 then q.len else 0
def nj(k:Int):Bool:=bif k==1 then true else bif k==2 then true else k==3
include hc in
theorem aFJ(q:PL):bK Uw [iI 1,K0 p lf,ah (bf ro),.ab 0 cn,J (c5 q),J [bE q.kind,iI 0,iI 0,iI 0,.aC 5],aT []]
 (bif nj q.kind then(0,[iI (mu q.kind),K0 p lf,ah (bf ro),.ab 0 cn,J (c5 q),J [bE q.kind,iI (rk q),iI (rj q),iI (rh q),.aC 5],aT []])
   else(1,[aq,K0 p lf,ah (bf ro),.ab 0 cn,J (c5 q),J [bE q.kind,iI 0,iI 0,iI 0,.aC 6],aa [],aT []])):=by
 refine bW asa ?_;rw [hc];refine aw (c:=q.kind==1) (λk1=>af ?_) λk1=>aw (c:=q.kind==2) (λk2=>af ?_) λk2=>aw (c:=q.kind==3) (λk3=>af ?_) λk3=>af ?_
 ·have:nj q.kind=true:=by unfold nj;rw [k1];rfl
  exact aiS
 ·have:nj q.kind=true:=by unfold nj;rw [k1,k2];rfl
  exact ai6
 ·have:nj q.kind=true:=by unfold nj;rw [k1,k2,k3];rfl
  rw [this];unfold mu rk rj rh;rw [k1,k2,k3];rfl
 ·have:nj q.kind=false:=by unfold nj;rw [k1,k2,k3];rfl
  exact fa
def kR(q:PL):Bool:=(rk q==q.O)&&((rj q==q.off)&&((rh q==q.len)&&((q.E.length:Int)==mu q.kind)))
include hc in
theorem aFI(q:PL):bK Uv [iI (mu q.kind),K0 p lf,ah (bf ro),.ab 0 cn,J (c5 q),J [bE q.kind,iI (rk q),iI (rj q),iI (rh q),.aC 5],aT []]
 (bif kR q then(0,[K0 p lf,ah (bf ro),.ab 0 cn,J (c5 q),J [bE q.kind,iI (rk q),iI (rj q),iI (rh q),.aC 5],aT []])
   else(1,[aq,K0 p lf,ah (bf ro),.ab 0 cn,J (c5 q),J [bE q.kind,iI (rk q),iI (rj q),iI (rh q),.aC 6],aa [],aT []])):=by
 refine bW ar9 ?_;rw [hc];refine aw (c:=rk q != q.O) (λh=>af ?_) λh=>aw (c:=rj q != q.off) (λh2=>af ?_) λh2=>aw (c:=rh q != q.len) (λh3=>af ?_) λh3=>aw (c:=ln (q.E.map aP) != mu q.kind) (λh4=>af ?_) λh4=>af ?_
 ·have:kR q=false:=by unfold kR;rw [im h];rfl
  exact fa
 ·have:kR q=false:=by unfold kR;rw [cT h,im h2];rfl
  exact fa
 ·have:kR q=false:=by unfold kR;rw [cT h,cT h2,im h3];rfl
  exact fa
 ·rw [dB]at h4;have:kR q=false:=by unfold kR;rw [cT h,cT h2,cT h3,im h4];rfl
  exact fa
 ·rw [dB]at h4;have:kR q=true:=by unfold kR;rw [cT h,cT h2,cT h3,cT h4];rfl
  exact fa
def qp(q:PL):Bool:=nj q.kind&&kR q
include hc in
theorem sN{q:PL}{r:UO}(h0:qp q=false->(0,aa []:: aq::fR p ro lf cn)=r)(h1:qp q=true->E (λN _=>Y7 p ro w lf cn q N) r):
 Ev BH [J (bB 0 w),J (c5 q),K0 p lf,ah (bf ro),.ab 0 cn] r:=by
 refine bx auk ?_;rw [hc];refine aj (aFJ (lf:=lf) hc q) ?_;cases hk:nj q.kind with
 |false=>
  refine bj (af ?_);rw [<-h0 (by unfold qp;rw [hk];rfl)];erw [hc];rfl
 |true=>
  refine aY ?_;simp only [cf];erw [hc];refine aj (aFI (lf:=lf) hc q) ?_;cases hg:kR q with
  |false=>
   refine bj (af ?_);rw [<-h0 (QD)];erw [hc];rfl
  |true=>
   have h1:=h1 (QD);refine aY ?_;simp only [cf];erw [hc];exact h1
end
section
variable{a b f o:Int}{l:List OB}{q:PL}{s:SO}
theorem aNg(h:qp q=true)(k1:(q.kind==1)=true):q.E=[]:=by
 unfold qp kR at h;simp only [bM]at h;have:=eq_of_beq h.2.2.2.2;rw [show mu q.kind=0 by unfold mu;rw [k1];rfl]at this;exact Cg (by omega)
theorem aoo(h:qp q=true)(k1:(q.kind==1)=false):∃e,q.E=[e]:=by
 unfold qp kR at h;simp only [bM]at h;have:=eq_of_beq h.2.2.2.2;rw [show mu q.kind=1 by unfold mu;rw [k1];rfl]at this
 match hE:q.E with
 | [e]=>exact⟨e,rfl⟩
 | []=>rw [hE]at this;simp at this
 |_::_::_=>rw [hE]at this;simp at this;omega
theorem aNf(h:qp q=true)(k1:(q.kind==1)=false)(k2:(q.kind==2)=false):(q.kind==3)=true:=by
 unfold qp nj at h;rw [k1,k2]at h;simp only [cE,bM]at h;exact h.1
theorem JF(hs:jw l o f=true):ib o l.length=true:=by
 unfold jw at hs;exact Kv
theorem aif{n:Int}(hs:mY l o f n=true):ib o l.length=true:=by
 unfold mY at hs;exact Kv
section
variable {p:PG} {ts:List TK} {ro:List RO} (ct:CT p ts ro) {w:WH} (hw:w.Ok) {cn:aW} (hc:az (au cn)=cn) {lf:Int} (hE:kO)
include hc in
theorem aDz(k1:(q.kind==1)=true):bK BE [iI (mu q.kind),K0 p lf,ah (bf ro),.ab 0 cn,J (bB 0 w),J (c5 q),J [aq,aq,.aC 6,iI 0,iI 0],aa []]
 (0,[K0 p lf,ah (bf ro),.ab 0 cn,J (bB 0 w),J (c5 q),J (bU kF)]):=by
 rw [show mu q.kind=0 by unfold mu;rw [k1];rfl];refine bW acQ (bj (af ?_));rw [hc];rfl
include hc in
theorem aDy{e:CE}(k1:(q.kind==1)=false)(he:q.E=[e]){b:Bool}(h:Ev xV [J (bB 0 w),J (aP e),J (dM 1 2 p lf),ah (bf ro),.ab 0 cn] (0,J (bU s):: ak b::fR p ro lf cn)):
 bK BE [iI (mu q.kind),K0 p lf,ah (bf ro),.ab 0 cn,J (bB 0 w),J (c5 q),J [aq,aq,.aC 6,iI 0,iI 0],aa []]
 (bif b then(0,[K0 p lf,ah (bf ro),.ab 0 cn,J (bB 0 w),J (c5 q),J (bU s)])else(1,[aq,K0 p lf,ah (bf ro),.ab 0 cn,J (bB 0 w),J (c5 q),J (bU s),aa []])):=by
 rw [show mu q.kind=1 by unfold mu;rw [k1];rfl];refine bW acQ (aY ?_);rw [hc,show gR (c5 q) 4=[e].map aP by rw [<-he];rfl,wY];refine aH rfl (aj h ?_);erw [hc];cases b with
 |false=>exact mW
 |true=>exact gr
def jP(p:PG)(ro:List RO)(w:WH)(q:PL)(s:SO):Bool:=
 bif q.kind==1 then(jw p.bu q.O q.off&&iO ro w q.O)else bif q.kind==2 then(!s.ptr&&(mY p.bu q.O q.off q.len&&iO ro w q.O))else(s.ptr||s.null)
def rf(q:PL)(s:SO):cW:=bif q.kind==1 then [q.O]else bif q.kind==2 then [q.O]else s.set
include ct hw hc in
theorem aDA(q:PL)(s:SO):bK MI [K0 p lf,ah (bf ro),.ab 0 cn,J (bB 0 w),J (c5 q),J (bU s)]
 (bif jP p ro w q s then(0,[aa (ints (rf q s)),K0 p lf,ah (bf ro),.ab 0 cn,J (bB 0 w),J (c5 q),J (bU s)])
   else(1,[aq,K0 p lf,ah (bf ro),.ab 0 cn,J (bB 0 w),J (c5 q),J (bU s),aa []])):=by
 have kV:∀{o:Int},ib o p.bu.length=true->ib o ro.length=true:=λh=>by rw [ct.len];exact h
 refine bW arf ?_;rw [hc];refine aw (c:=q.kind==1) (λk1=> ?_) λk1=>aw (c:=q.kind==2) (λk2=> ?_) λk2=> ?_
 ·refine aj (QW (l:=p.bu) (en:= -1) (o:=q.O) (off:=q.off)) (aw (c:= !jw p.bu q.O q.off) (λh=>af ?_) λh=> ?_)
  ·simp only [dX]at h;have:jP p ro w q s=false:=by unfold jP;rw [k1,h];rfl
   exact fa
  ·simp only [dL]at h;refine aj (KX hw hc (kV (JF h))) ?_;erw [hc];refine aw (c:= !iO ro w q.O) (λh'=>af ?_) λh'=>af ?_
   ·simp only [dX]at h';have:jP p ro w q s=false:=by unfold jP;rw [k1,h,h'];rfl
    exact fa
   ·simp only [dL]at h';have:jP p ro w q s=true:=by unfold jP;rw [k1,h,h'];rfl
    rw [this];unfold rf;rw [k1];rfl
 ·have hj:bK T4 [K0 p lf,ah (bf ro),.ab 0 cn,J (bB 0 w),J (c5 q),J (bU s)]
   (bif jP p ro w q s then(0,[K0 p lf,ah (bf ro),.ab 0 cn,J (bB 0 w),J (c5 q),J (bU s)])else(1,[aq,K0 p lf,ah (bf ro),.ab 0 cn,J (bB 0 w),J (c5 q),J (bU s),aa []])):=by
   refine bW aqS ?_;rw [hc];refine aw (c:=s.ptr) (λh=>af ?_) λh=>aj (aog (l:=p.bu) (en:= -1) (o:=q.O) (off:=q.off) (n:=q.len)) (aw (c:= !mY p.bu q.O q.off q.len) (λh2=>af ?_) λh2=> ?_)
   ·have:jP p ro w q s=false:=by unfold jP;rw [k1,k2,h];rfl
    exact fa
   ·simp only [dX]at h2;have:jP p ro w q s=false:=by unfold jP;rw [k1,k2,h,h2];rfl
    exact fa
   ·simp only [dL]at h2;refine aj (KX hw hc (kV (aif h2))) ?_;erw [hc];refine aw (c:= !iO ro w q.O) (λh'=>af ?_) λh'=>af ?_
    ·simp only [dX]at h';have:jP p ro w q s=false:=by unfold jP;rw [k1,k2,h,h2,h'];rfl
     exact fa
    ·simp only [dL]at h';have:jP p ro w q s=true:=by unfold jP;rw [k1,k2,h,h2,h'];rfl
     exact fa
  refine aj hj ?_;cases hp:jP p ro w q s with
  |false=>exact C9
  |true=>refine aY (af ?_);erw [hc];unfold rf;rw [k1,k2];rfl
 ·refine aw (c:= !s.ptr) (λh=>aw (c:= !s.null) (λh2=>af ?_) λh2=>af ?_) λh=>af ?_
  ·simp only [dX]at h h2;have:jP p ro w q s=false:=by unfold jP;rw [k1,k2,h,h2];rfl
   exact fa
  ·simp only [dL]at h2;have:jP p ro w q s=true:=by unfold jP;rw [k1,k2,h2];simp
   rw [this];unfold rf;rw [k1,k2];rfl
  ·simp only [dL]at h;have:jP p ro w q s=true:=by unfold jP;rw [k1,k2,h];simp
   rw [this];unfold rf;rw [k1,k2];rfl
include ct hw hc in
theorem JH(hs:(rf q s).length <=mx)
 (h:bK BE [iI (mu q.kind),K0 p lf,ah (bf ro),.ab 0 cn,J (bB 0 w),J (c5 q),J [aq,aq,.aC 6,iI 0,iI 0],aa []] (0,[K0 p lf,ah (bf ro),.ab 0 cn,J (bB 0 w),J (c5 q),J (bU s)])):
 E (λN _=>Y7 p ro w lf cn q N) (bif jP p ro w q s then(0,aa (ints (rf q s)):: ak (!((rf q s).any λo=>dN w.loops o))::fR p ro lf cn)else(0,aa []:: aq::fR p ro lf cn)):=by
 refine aj h (aY ?_);erw [hc];refine aj (aDA ct hw hc q s) ?_;cases hp:jP p ro w q s with
 |false=>exact C9
 |true=>
  refine aY ?_;simp only [cf];erw [hc];refine aj (aNh hw hc hs) (af ?_);exact ju
include hc in
theorem JI(h:bK BE [iI (mu q.kind),K0 p lf,ah (bf ro),.ab 0 cn,J (bB 0 w),J (c5 q),J [aq,aq,.aC 6,iI 0,iI 0],aa []] (1,[aq,K0 p lf,ah (bf ro),.ab 0 cn,J (bB 0 w),J (c5 q),J (bU s),aa []])):
 E (λN _=>Y7 p ro w lf cn q N) (0,aa []:: aq::fR p ro lf cn):=by
 refine aj h (bj (af ?_));erw [hc];rfl
theorem aEB(q:PL):bK WS [iI 0,J (c5 q),J [bE q.kind,iI 0,iI 0,iI 0,.aC 2],aT []]
 (bif nj q.kind then(0,[iI (mu q.kind),J (c5 q),J [bE q.kind,iI (rk q),iI (rj q),iI (rh q),.aC 2],aT []])
   else(1,[aq,J (c5 q),J [bE q.kind,iI 0,iI 0,iI 0,.aC 3],aa [],aT []])):=by
 refine bW ayz ?_;refine aw (c:=q.kind==1) (λk1=>af ?_) λk1=>aw (c:=q.kind==2) (λk2=>af ?_) λk2=>aw (c:=q.kind==3) (λk3=>af ?_) λk3=>af ?_
 ·have:nj q.kind=true:=by unfold nj;rw [k1];rfl
  exact aiS
 ·have:nj q.kind=true:=by unfold nj;rw [k1,k2];rfl
  exact ai6
 ·have:nj q.kind=true:=by unfold nj;rw [k1,k2,k3];rfl
  rw [this];unfold mu rk rj rh;rw [k1,k2,k3];rfl
 ·have:nj q.kind=false:=by unfold nj;rw [k1,k2,k3];rfl
  exact fa
theorem aaH(h:(a != b)=true):(b==a)=false:=by simp at h⊢;exact λh'=>h h'.symm
theorem GI(h:(a != b)=false):(b==a)=true:=by simp at h⊢;exact h.symm
theorem aEA(q:PL):bK WR [iI (mu q.kind),J (c5 q),J [bE q.kind,iI (rk q),iI (rj q),iI (rh q),.aC 2],aT []]
 (bif kR q then(0,[J (c5 q),J [bE q.kind,iI (rk q),iI (rj q),iI (rh q),.aC 2],aT []])
   else(1,[aq,J (c5 q),J [bE q.kind,iI (rk q),iI (rj q),iI (rh q),.aC 3],aa [],aT []])):=by
 refine bW ayy ?_;refine aw (c:=ln (q.E.map aP) != mu q.kind) (λh4=>af ?_) λh4=>aw (c:=q.O != rk q) (λh=>af ?_) λh=>aw (c:=q.off != rj q) (λh2=>af ?_) λh2=>aw (c:=q.len != rh q) (λh3=>af ?_) λh3=>af ?_
 ·rw [dB]at h4;have:kR q=false:=by unfold kR;rw [im h4];simp
  exact fa
 ·have:kR q=false:=by unfold kR;rw [aaH h];rfl
  exact fa
 ·have:kR q=false:=by unfold kR;rw [GI h,aaH h2];rfl
  exact fa
 ·have:kR q=false:=by unfold kR;rw [GI h,GI h2,aaH h3];rfl
  exact fa
 ·rw [dB]at h4;have:kR q=true:=by unfold kR;rw [GI h,GI h2,GI h3,cT h4];rfl
  exact fa
theorem OY{t:SO}{b:Bool}(he:∀e,q.E=[e]->Ev Cw [jZ l [] (-1),J (aP e)] (0,[J (bU t),ak b])):
 Ev zU [bJ (cb l),J (c5 q)] (bif qp q then bif q.kind==1 then(0,[aa (ints [q.O]),ak (jw l q.O q.off)])else bif q.kind==2 then(0,[aa (ints [q.O]),ak (b&&(!t.ptr&&mY l q.O q.off q.len))])else(0,[aa (ints t.set),ak (b&&(t.ptr||t.null))])else(0,[aa [],aq])):=by
 refine bx aAX (aj (aEB q) ?_);cases hk:nj q.kind with
 |false=>
  have:qp q=false:=by unfold qp;rw [hk];rfl
  rw [this];exact gr
 |true=>
  refine aY ?_;simp only [cf];refine aj (aEA q) ?_;cases hg:kR q with
  |false=>
   have:qp q=false:=QD;rw [this];exact gr
  |true=>
   have hF:qp q=true:=QD;rw [hF];refine aY ?_;simp only [cf];refine aw (c:=q.kind==1) (λk1=> ?_) λk1=> ?_
   ·exact aj alq (af (by rw [k1];rfl))
   ·obtain⟨e,hq⟩:=aoo hF k1;have uR:=he e hq;rw [<-wY e,<-hq]at uR;refine aH (by show decide (0<ln (q.E.map aP))=true;rw [hq];rfl) (aj uR (aw (c:=q.kind==2) (λk2=> ?_) λk2=> ?_))
    ·rw [k1,k2];cases b with
     |false=>exact gr
     |true=>
      refine aY (aw (c:= !t.ptr) (λh=>aj amu (af ?_)) λh=>af ?_)
      ·exact gv
      ·exact gv
    ·rw [k1,k2];cases b with
     |false=>exact gr
     |true=>
      refine aY (aw (c:=t.ptr) (λh=>af ?_) λh=>af ?_)
      ·exact gv
      ·exact gv
end
end
end Go.Proofs.YtomkobcipaligaaGreatDoor
namespace Go.aA
def aoA{p:Prop}(h:p:=by
 cases hi:dN w.loops q.O with
 |true=>
  rw [hi]at hX;refine⟨[q.O],[],false,sN hc (λh=>by rw [hF]at h;cases h) λ_=>E.to hC ?_,hX,λh=>by cases h⟩;simp only [Cf,X1,hi];rfl
 |false=>
  rw [hi]at hX;refine⟨[q.O],[q.O],true,sN hc (λh=>by rw [hF]at h;cases h) λ_=>E.to hC ?_,hX,λ_=>⟨λ_=>qJ,λx hx=>by simp at hx;subst hx;exact tM,one_le _,one_le _,λ_=>⟨rfl,rfl⟩⟩⟩;simp only [Cf,X1,hi];rfl):p:=h
def vC{p:Prop}(h:p:=by rw [hF]at h;cases h):p:=h
def akK{p:Prop}(h:p:=by
 simp only [Cf,X1,Yg,uA,k3];cases dN w.loops q.O<;>rfl):p:=h
def yq{p:Prop}(h:p:=by rw [he];simp):p:=h
def ajw{p:Prop}(h:p:=by rw [he]at h';simp at h';subst h';exact h2):p:=h
end Go.aA
namespace Go.aA
def JA:=@Bool.and_assoc
def X1:=@List.any_nil
end Go.aA
namespace Go.Proofs.YtomkobcipaligaaGreatDoor
open Go Go.aA
section
variable{q:PL}{l:cW}
theorem one_le(x:Int): [x].length <=mx:=by show 1<=1048576;omega
section
variable {p:PG} {ts:List TK} {ro:List RO} (ct:CT p ts ro) {w:WH} (hw:w.Ok) {cn:aW} (hc:az (au cn)=cn) {lf:Int} (hE:kO)
def uA(ro:List RO)(w:WH)(q:PL)(x:Int):Bool:=bif dN w.loops x then true else bif q.kind != 3 then !iO ro w x else false
include hw in
theorem aaE(hq:q.Ok)(hl:l.length<=mx){f:CE->Bool}(h:Ev zU [bJ (cb p.bu),J (c5 q)] (0,[aa (ints l),cw]))
 (hf:∀e∈q.E,Ev uZ [bI p ts ro w,J (aP e)] (0,[ak (f e)])) (hr:(q.kind != 3)=true->∀x∈l,ib x ro.length=true):
 Ev BV [bI p ts ro w,J (c5 q)] (bif q.E.any (λe=> !f e)then(0,[aa [],aq])else bif l.any (uA ro w q)then(0,[aa [],aq])else(0,[aa (ints l),cw])):=by
 have k1:=pq (l:=q.E) (p:=λe=> !f e) (hit:=(0,[aq,bI p ts ro w,J (c5 q),aa []])) (done:=(1,[bI p ts ro w,J (c5 q)])) (LF:=λi N m=>M8 (FU CX EE N) N m [iI (i:Int),bI p ts ro w,J (c5 q)])
  (bD adn (ax (dY (f:=aP) (l:=q.E)) aL))
  λi hi r h2 h3=>bD adn<|br (dx (f:=aP) hi)<|aH (cN (f:=aP) hi)<|by
   rw [show gR (c5 q) 4=q.E.map aP from rfl,sX hi,ix hi hq.1];exact aj (hf _ (dy hi)) (aw (λpU=>af (h2 pU)) h3)
 have k2:=pq (l:=l) (p:=uA ro w q) (hit:=(0,[aq,bI p ts ro w,J (c5 q),aa []])) (done:=(1,[bI p ts ro w,J (c5 q)])) (LF:=λi N m=>Ik (FU CX EE N) N m [aa (ints l),iI (i:Int),bI p ts ro w,J (c5 q)])
  (bD adm (ax dY aL))
  λi hi r h2 h3=>bD adm<|br (dx hi)<|aH (cN hi)<|by
   rw [fK hi,ix hi hl];refine aj (uL (l:=w.loops) l[i] (QK)) (aw (c:=dN w.loops l[i]) (λa=>af (h2 (by unfold uA;rw [a];rfl))) λa=>aw (c:=q.kind != 3) (λb=>aH (cN hi) ?_) λb=>h3 (by unfold uA;rw [a,b];rfl));exact aj (Si hw (hr b _ (dy hi))) (aw (c:= !iO ro w l[i]) (λc=>af (h2 (by unfold uA;rw [a,b,c];rfl))) λc=>h3 (by unfold uA;rw [a,b,c];rfl))
 refine bx aet (aj h (bj ?_));have kJ:bK Vp [bI p ts ro w,J (c5 q)] (bif q.E.any (λe=> !f e)then(1,[aq,bI p ts ro w,J (c5 q),aa []])else(0,[bI p ts ro w,J (c5 q)])):=by
  refine bW auf (aj k1.diag ?_);cases q.E.any (λe=> !f e)with
  |true=>exact mW
  |false=>exact gr
 refine aj kJ ?_;cases q.E.any (λe=> !f e)with
 |true=>exact gr
 |false=>
  refine aY (aj k2.diag ?_);cases l.any (uA ro w q)with
  |true=>exact mW
  |false=>exact gr
theorem Gl(h:Ev zU [bJ (cb p.bu),J (c5 q)] (0,[aa (ints l),aq])):
 Ev BV [bI p ts ro w,J (c5 q)] (0,[aa [],aq]):=
 bx aet (aj h (aY aL))
include ct hw hc hE in
theorem aGp(e:CE)(bz:e.Ok):∃s t b0 b,
 Ev xV [J (bB 0 w),J (aP e),J (dM 1 2 p lf),ah (bf ro),.ab 0 cn] (0,J (bU s):: ak b::fR p ro lf cn)∧
 Ev Cw [jZ p.bu [] (-1),J (aP e)] (0,[J (bU t),ak b0])∧(b0=false->b=false)∧(b0=true->RI p.bu.length s t∧Ev uZ [bI p ts ro w,J (aP e)] (0,[ak b])):=by
 obtain⟨s,t,b,h1,h2,h3⟩:=S4 hE ct.ol (-1) e bz;cases b with
 |false=>
  refine⟨s,t,false,false,bx Na ?_,h2,λ_=>rfl,λh=>aX⟩;rw [hc,eQ];exact aj h1 (bj aL)
 |true=>
  obtain⟨ri,ef⟩:=h3 rfl;obtain⟨b,u1,u2⟩:=alo ct hw hc (lf:=lf) e bz ef;refine⟨s,t,true,b,bx Na ?_,h2,(λh=>aX),λ_=>⟨ri,u2⟩⟩;rw [hc,eQ];refine aj h1 (aY (aj u1 (af ?_)));exact ju
include ct hw hc hE in
theorem plE(hq:q.Ok):∃l l' b,
 Ev BH [J (bB 0 w),J (c5 q),K0 p lf,ah (bf ro),.ab 0 cn] (0,aa (ints l):: ak b::fR p ro lf cn)∧
 Ev BV [bI p ts ro w,J (c5 q)] (0,[aa (ints l'),ak b])∧(b=true->PlR p.bu.length q.kind q.O l l'):=by
 have kV:∀{o:Int},ib o p.bu.length=true->ib o ro.length=true:=λh=>by rw [ct.len];exact h
 cases hF:qp q with
 |false=>
  have hp:=OY (l:=p.bu) (q:=q) (t:=kF) (b:=false);refine⟨[],[],false,sN hc (λ_=>rfl) (λh=>vC),?_,λh=>aX⟩
  by_cases hx:∃e,q.E=[e]
  ·obtain⟨e,he⟩:=hx;obtain⟨s,t,b,h1,h2,h3⟩:=S4 hE ct.ol (-1) e (hq.2 e (yq));have hp:=OY (l:=p.bu) (q:=q) (t:=t) (b:=b) λe' h'=>ajw;rw [hF]at hp;exact Gl (l:=[]) hp
  ·have hp:=hp λe h=>absurd ⟨e,h⟩ hx;rw [hF]at hp;exact Gl (l:=[]) hp
 |true=>
  cases k1:q.kind==1 with
  |true=>
   have hE0:=aNg hF k1;have hp:=OY (l:=p.bu) (q:=q) (t:=kF) (b:=false) λe h=>by rw [hE0]at h;cases h
   rw [hF,k1]at hp;have hC:=JH ct hw hc (lf:=lf) (s:=kF) (by unfold rf;rw [k1];exact one_le _) (aDz hc k1);have hS:rf q kF=[q.O]:=by unfold rf;rw [k1];rfl
   have hO:jP p ro w q kF=(jw p.bu q.O q.off&&iO ro w q.O):=by unfold jP;rw [k1];rfl
   rw [hS,hO]at hC;cases hs:jw p.bu q.O q.off with
   |false=>
    rw [hs]at hp hC;exact⟨[],[],false,sN hc (λh=>vC) λ_=>hC,Gl hp,λh=>aX⟩
   |true=>
    rw [hs]at hp hC;have hX:=aaE (ts:=ts) (ro:=ro) hw hq (one_le _) (f:=λ_=>true) hp (λe h=>by rw [hE0]at h;cases h) λ_ x hx=>by
     simp at hx;subst hx;exact kV (JF hs)
    rw [hE0]at hX;have k3:(q.kind != 3)=true:=by rw [eq_of_beq k1];rfl
    have hb: [q.O].any (uA ro w q)=(dN w.loops q.O|| !iO ro w q.O):=akK;rw [hb]at hX;cases hm:iO ro w q.O with
    |false=>
     rw [hm]at hX hC;refine⟨[],[],false,sN hc (λh=>vC) λ_=>hC,?_,λh=>aX⟩;cases hi:dN w.loops q.O<;>rw [hi]at hX<;>exact hX
    |true=>
     rw [hm]at hX hC;have tM:=JF hs;exact aoA
  |false=>
   obtain⟨e,he⟩:=aoo hF k1;obtain⟨s,t,b0,b,h1,h2,h3,h4⟩:=aGp ct hw hc (lf:=lf) hE e (hq.2 e (yq));have hp:=OY (l:=p.bu) (q:=q) (t:=t) (b:=b0) λe' h'=>ajw;rw [hF,k1]at hp;have y0:=aDy hc k1 he h1;cases b0 with
   |false=>
    have:=h3 rfl;subst this;refine⟨[],[],false,sN hc (λh=>vC) λ_=>JI hc y0,?_,λh=>aX⟩;cases k2:q.kind==2<;>rw [k2]at hp<;>exact Gl hp
   |true=>
    obtain⟨ri,hu⟩:=h4 rfl;have hfu:∀e'∈q.E,Ev uZ [bI p ts ro w,J (aP e')] (0,[ak ((λ_=>b) e')]):=λe' h'=>by
     rw [he]at h';simp at h';subst h';exact hu
    have apb:(q.E.any λe'=> !(λ_:CE=>b) e')= !b:=yq;cases k2:q.kind==2 with
    |true=>
     rw [k2]at hp;have k3:(q.kind != 3)=true:=by rw [eq_of_beq k2];rfl
     have hS:rf q s=[q.O]:=by unfold rf;rw [k1,k2];rfl
     have hO:jP p ro w q s=(!s.ptr&&(mY p.bu q.O q.off q.len&&iO ro w q.O)):=by unfold jP;rw [k1,k2];rfl
     rw [<-ri.rel.ptr]at hp;simp only [oK]at hp;cases hs:(!s.ptr&&mY p.bu q.O q.off q.len)with
     |false=>
      have hp:Ev zU [bJ (cb p.bu),J (c5 q)] (0,[aa (ints [q.O]),ak (!s.ptr&&mY p.bu q.O q.off q.len)]):=hp;rw [hs]at hp;refine⟨[],[],false,sN hc (λh=>vC) λ_=> ?_,Gl hp,λh=>aX⟩;cases b with
      |false=>exact JI hc y0
      |true=>
       have hC:=JH ct hw hc (lf:=lf) (s:=s) (by rw [hS];exact one_le _) y0;rw [hS,hO,show(!s.ptr&&(mY p.bu q.O q.off q.len&&iO ro w q.O))=false by rw [<-JA,hs];rfl]at hC;exact hC
     |true=>
      have hp:Ev zU [bJ (cb p.bu),J (c5 q)] (0,[aa (ints [q.O]),ak (!s.ptr&&mY p.bu q.O q.off q.len)]):=hp;rw [hs]at hp;have tM:ib q.O p.bu.length=true:=aif (bM _ _▸hs).2;have hX:=aaE (ts:=ts) (ro:=ro) hw hq (one_le _) hp hfu λ_ x hx=>by simp at hx;subst hx;exact kV tM
      rw [apb]at hX;have hb: [q.O].any (uA ro w q)=(dN w.loops q.O|| !iO ro w q.O):=akK;rw [hb]at hX;cases b with
      |false=>exact⟨[],[],false,sN hc (λh=>vC) λ_=>JI hc y0,hX,λh=>aX⟩
      |true=>
       have hC:=JH ct hw hc (lf:=lf) (s:=s) (by rw [hS];exact one_le _) y0;rw [hS,hO,show(!s.ptr&&(mY p.bu q.O q.off q.len&&iO ro w q.O))=iO ro w q.O by rw [<-JA,hs];rfl]at hC;cases hm:iO ro w q.O with
       |false=>
        rw [hm]at hX hC;refine⟨[],[],false,sN hc (λh=>vC) λ_=>hC,?_,λh=>aX⟩;cases hi:dN w.loops q.O<;>rw [hi]at hX<;>exact hX
       |true=>
        rw [hm]at hX hC;exact aoA
    |false=>
     rw [k2]at hp;have k3:(q.kind != 3)=false:=by simpa using aNf hF k1 k2
     have hS:rf q s=s.set:=by unfold rf;rw [k1,k2];rfl
     have hO:jP p ro w q s=(s.ptr||s.null):=by unfold jP;rw [k1,k2];rfl
     have hl:=ri.l.le ct.ol.len;have tL:=ri.r.le ct.ol.len;have hp:Ev zU [bJ (cb p.bu),J (c5 q)] (0,[aa (ints t.set),ak (t.ptr||t.null)]):=hp;rw [<-ri.rel.ptr,<-ri.rel.null]at hp;cases hs:(s.ptr||s.null)with
     |false=>
      rw [hs]at hp;refine⟨[],[],false,sN hc (λh=>vC) λ_=> ?_,Gl hp,λh=>aX⟩;cases b with
      |false=>exact JI hc y0
      |true=>
       have hC:=JH ct hw hc (lf:=lf) (s:=s) (by rw [hS];exact hl) y0;rw [hO,hs]at hC;exact hC
     |true=>
      rw [hs]at hp;have hX:=aaE (ts:=ts) (ro:=ro) hw hq tL hp hfu λh=>by rw [k3]at h;cases h
      rw [apb]at hX;have hb:t.set.any (uA ro w q)=t.set.any λo=>dN w.loops o:=by
       congr 1;funext x;unfold uA;rw [k3];cases dN w.loops x<;>rfl
      rw [hb,<-P4 ri.rel.set]at hX;cases b with
      |false=>exact⟨[],[],false,sN hc (λh=>vC) λ_=>JI hc y0,hX,λh=>aX⟩
      |true=>
       have hC:=JH ct hw hc (lf:=lf) (s:=s) (by rw [hS];exact hl) y0;rw [hS,hO,hs]at hC;cases hi:s.set.any λo=>dN w.loops o with
       |true=>
        rw [hi]at hX hC;exact⟨s.set,[],false,sN hc (λh=>vC) λ_=>hC,hX,λh=>aX⟩
       |false=>
        rw [hi]at hX hC;refine⟨s.set,t.set,true,sN hc (λh=>vC) λ_=>hC,hX,λ_=>⟨ri.rel.set,ri.l.jz,hl,tL,λh=>absurd ?_ h⟩⟩;simpa using k3
end
end
section
variable{i t:Int}{l:List TK}{q:PL}
theorem Gz(h:ib i l.length=true):gA (l.map cF) i.toNat=cF (ml l i):=by
 have:=jv.1 h;have h2:i.toNat<l.length:=by omega
 rw [sQ h2];simp [ml,h2]
theorem Yk(h:ib i l.length=true):ml l i∈l:=by
 have:=jv.1 h;have h2:i.toNat<l.length:=by omega
 simp only [ml,lN,dD h2,pb];exact dy h2
def en0:EN:=⟨[],[]⟩
def DB(l:List EN)(i:Int):EN:=l.getD i.toNat en0
theorem aaB{l:List EN}(h:ib i l.length=true):gA (l.map iP) i.toNat=iP (DB l i):=by
 have:=jv.1 h;have h2:i.toNat<l.length:=by omega
 rw [sQ h2];simp [DB,h2]
theorem Yu{l:List EN}(h:ib i l.length=true):DB l i∈l:=by
 have:=jv.1 h;have h2:i.toNat<l.length:=by omega
 simp only [DB,lN,dD h2,pb];exact dy h2
def pr0:PR:=⟨0,[],[]⟩
def Dp(l:List PR)(i:Int):PR:=l.getD i.toNat pr0
theorem KA{l:List PR}(h:ib i l.length=true):gA (l.map fA) i.toNat=fA (Dp l i):=by
 have:=jv.1 h;have h2:i.toNat<l.length:=by omega
 rw [sQ h2];simp [Dp,h2]
section
variable {p:PG} {ts:List TK} {ro:List RO} (ct:CT p ts ro) {w:WH} (hw:w.Ok) {cn:aW} (hc:az (au cn)=cn) {lf:Int} (hE:kO)
def jx(p:PG)(t e:Int):Bool:=bif decide (0<=t)then bif decide (t<(p.tasks.length:Int))then bif decide (0<=e)then decide (e<((ml p.tasks t).au.length :Int))else false else false else false
include hc in
theorem SJ(t e:Int):Ev EH [J (bB 0 w),iI t,iI e,J (dM 1 2 p lf),ah (bf ro),.ab 0 cn] (0,ak (jx p t e)::fR p ro lf cn):=by
 refine bx aun ?_;rw [hc];refine aw (c:=decide (0<=t)) (λh1=>aw (c:=decide (t<ln (p.tasks.map cF))) (λh2=>aw (c:=decide (0<=e)) (λh3=> ?_) λh3=>af ?_) λh2=>af ?_) λh1=>af ?_
 ·rw [dB]at h2;have hi:=sW h1 h2;refine aH (by show ib t (p.tasks.map cF).length =true;rw [ey];exact hi) (af ?_);show(0,[ak (decide (e<ln (gR (gA (p.tasks.map cF) t.toNat) 1))),_,_,_])=_;rw [Gz hi];show(0,[ak (decide (e<ln ((ml p.tasks t).au.map iP))),_,_,_])=_;rw [dB];unfold jx;rw [h1,h2,h3];rfl
 ·rw [dB]at h2;unfold jx;rw [h1,h2,h3];rfl
 ·rw [dB]at h2;unfold jx;rw [h1,h2];rfl
 ·unfold jx;rw [h1];rfl
include ct in
theorem P7:ln (ts.map cF)=(p.tasks.length:Int):=by rw [dB,ct.same.len]
include ct in
theorem Q7(h:ib t p.tasks.length=true):ib t (ts.map cF).length =true:=by rw [ey,ct.same.len];exact h
include ct in
theorem Cr(h:ib t p.tasks.length=true):gR (gA (ts.map cF) t.toNat) 1=(ml p.tasks t).au.map iP:=by
 rw [Gz (by rw [ct.same.len];exact h),<-ct.same.au t];rfl
include ct in
theorem SH(t e:Int):Ev EX [bI p ts ro w,iI t,iI e] (0,[ak (jx p t e)]):=by
 refine bx axB ?_;refine aw (c:=decide (0<=t)) (λh1=>aw (c:=decide (t<ln (ts.map cF))) (λh2=>aw (c:=decide (0<=e)) (λh3=> ?_) λh3=>af ?_) λh2=>af ?_) λh1=>af ?_
 ·rw [P7 ct]at h2;have hi:=sW h1 h2;refine aH (Q7 ct hi) (af ?_);show(0,[ak (decide (e<ln (gR (gA (ts.map cF) t.toNat) 1)))])=_;rw [Cr ct hi,dB];unfold jx;rw [h1,h2,h3];rfl
 ·rw [P7 ct]at h2;unfold jx;rw [h1,h2,h3];rfl
 ·rw [P7 ct]at h2;unfold jx;rw [h1,h2];rfl
 ·unfold jx;rw [h1];rfl
theorem YS{e:Int}(h:jx p t e=true):ib t p.tasks.length=true∧ib e (ml p.tasks t).au.length =true:=by
 unfold jx at h;cases h1:decide (0<=t)<;>rw [h1]at h
 ·exact aX
 cases h2:decide (t<(p.tasks.length:Int))<;>rw [h2]at h
 ·exact aX
 cases h3:decide (0<=e)<;>rw [h3]at h
 ·exact aX
 exact⟨sW h1 h2,sW h3 h⟩
def qS(p:PG)(t e:Int):Bool:=bif decide (0<=t)then bif decide (t<(p.dw.length:Int))then bif decide (0<=e)then decide (e<((Dp p.dw t).bars.length :Int))else false else false else false
include hc in
theorem amw(t e:Int):Ev Ni [J (bB 0 w),iI t,iI e,J (dM 1 2 p lf),ah (bf ro),.ab 0 cn] (0,ak (qS p t e)::fR p ro lf cn):=by
 refine bx avm ?_;rw [hc];refine aw (c:=decide (0<=t)) (λh1=>aw (c:=decide (t<ln (p.dw.map fA))) (λh2=>aw (c:=decide (0<=e)) (λh3=> ?_) λh3=>af ?_) λh2=>af ?_) λh1=>af ?_
 ·rw [dB]at h2;have hi:=sW h1 h2;refine aH (by show ib t (p.dw.map fA).length =true;rw [ey];exact hi) (af ?_);show(0,[ak (decide (e<ln (gR (gA (p.dw.map fA) t.toNat) 2))),_,_,_])=_;rw [KA hi];show(0,[ak (decide (e<ln ((Dp p.dw t).bars.map aP))),_,_,_])=_;rw [dB];unfold qS;rw [h1,h2,h3];rfl
 ·rw [dB]at h2;unfold qS;rw [h1,h2,h3];rfl
 ·rw [dB]at h2;unfold qS;rw [h1,h2];rfl
 ·unfold qS;rw [h1];rfl
def tc(p:PG)(w:WH)(e:Int):Bool:=jx p w.task e&& !dN w.lg e
include hw hc in
theorem aop(e:Int):Ev Np [J (bB 0 w),iI e,J (dM 1 2 p lf),ah (bf ro),.ab 0 cn] (0,ak (tc p w e)::fR p ro lf cn):=by
 refine bx awn ?_;rw [hc];refine aj (SJ (lf:=lf) hc w.task e) ?_;erw [hc];refine aw (c:=jx p w.task e) (λh=>aj (u9 (l:=w.lg) e (QO)) (af ?_)) λh=>af ?_
 ·unfold tc;rw [h];rfl
 ·unfold tc;rw [h];rfl
include ct hw in
theorem abj(e:Int):Ev E5 [bI p ts ro w,iI e] (0,[ak (tc p w e)]):=by
 refine bx azo (aj (SH ct w.task e) ?_);refine aw (c:=jx p w.task e) (λh=>aj (uL (l:=w.lg) e (QO)) (af ?_)) λh=>af ?_
 ·unfold tc;rw [h];rfl
 ·unfold tc;rw [h];rfl
include ct hw hc hE in
theorem alA(hq:q.Ok):∃b,Ev Ic [J (bB 0 w),J (c5 q),J (dM 1 2 p lf),ah (bf ro),.ab 0 cn] (0,ak b::fR p ro lf cn)∧Ev Ir [bI p ts ro w,J (c5 q)] (0,[ak b]):=by
 obtain⟨l,l',b,h1,h2,h3⟩:=plE ct hw hc (lf:=lf) hE hq;cases b with
 |false=>
  refine⟨false,bx Up ?_,bx Vf (aj h2 (bj aL))⟩;rw [hc];refine aj h1 ?_;erw [hc];exact gr
 |true=>
  have hp:=h3 rfl;cases k3:q.kind != 3 with
  |false=>
   refine⟨false,bx Up ?_,bx Vf (aj h2 (aY (ax k3 aL)))⟩;rw [hc];refine aj h1 ?_;erw [hc];exact aY (ax k3 aL)
  |true=>
   obtain⟨rfl,rfl⟩:=hp.one (by simpa using k3);have hi:=hp.jz q.O (by simp);have dZ:ib q.O (cb p.bu).length =true:=J6;refine⟨!(cQ p.bu q.O).ptr,bx Up ?_,bx Vf (aj h2 (aY (br k3 (aH rfl (aH dZ (af ?_))))))⟩
   ·rw [hc];refine aj h1 ?_;erw [hc];refine aY (br k3 (aH rfl (aH dZ (af ?_))));show(0,[ak (!(gB (gA (cb p.bu) q.O.toNat) 3)),_,_,_])=_;rw [mj hi];rfl
   ·show(0,[ak (!(gB (gA (cb p.bu) q.O.toNat) 3))])=_;rw [mj hi];rfl
include ct hw hc hE in
theorem aG0(hq:q.Ok){e:CE}(he:e.Ok){f:dk}(hT:f.To=[q])(hF:f.E=[e]):∃l b1 b,
 Ev BH [J (bB 0 w),J (c5 q),K0 p lf,ah (bf ro),.ab 0 cn] (0,aa (ints l):: ak b1::fR p ro lf cn)∧
 (b1=true->Ev zN [J (bB 0 w),J (aP e),aa (ints l),K0 p lf,ah (bf ro),.ab 0 cn] (0,ak b::fR p ro lf cn))∧
 ∀{L D H A:aW},Ev WX [bI p ts ro w,J (cZ f L D H A)] (0,[ak (b1&&b)]):=by
 obtain⟨l,l',b1,h1,h2,h3⟩:=plE ct hw hc (lf:=lf) hE hq;obtain⟨s,t,b,g1,g2,g3⟩:=GA ct hw hc (lf:=lf) hE e he;have sy:∀{L D H A:aW},gR (cZ f L D H A) 14=[q].map c5:=by intro L D H A;rw [<-hT];rfl
 have oa:∀{L D H A:aW},gR (cZ f L D H A) 12=[e].map aP:=by intro L D H A;rw [<-hF];rfl
 cases b1 with
 |false=>
  refine⟨l,false,false,h1,(λh=>aX),λ{L D H A}=>bx aff (aH (by rw [sy];rfl) ?_)⟩;erw [sy];exact aj h2 (aY aL)
 |true=>
  have hp:=h3 rfl;have nW:∀x∈l',ib x p.bu.length=true:=λx hx=>hp.jz x ((hp.mem x).2 hx);refine⟨l,true,fitAll p s b l,h1,λ_=>SB ct hc g1 (λh=>(g3 h).l) hp.len hp.jz,λ{L D H A}=>bx aff (aH (by rw [sy];rfl) ?_)⟩;have hl:=pq (l:=l') (p:=λo=> !(b&&iW t (cQ p.bu o))) (hit:=(0,[aq,bI p ts ro w,J (cZ f L D H A)])) (done:=(1,[bI p ts ro w,J (cZ f L D H A)])) (LF:=λi N m=>Nl (FU CX EE N) N m [aa (ints l'),iI (i:Int),bI p ts ro w,J (cZ f L D H A)])
   (bD adI (ax dY aL))
   λi hi r q1 q2=>bD adI<|br (dx hi)<|aH (by rw [oa];rfl)<|aH (cN hi)<|by
    erw [oa];rw [fK hi,ix hi hp.aoJ,wY];exact aj (SA ct g2 (λh=>(g3 h).r) (nW _ (dy hi))) (aw (λpU=>af (q1 pU)) q2)
  erw [sy];refine aj h2 (bj (aH (by rw [oa];rfl) ?_));erw [oa];rw [wY];refine aj g2 (aj hl.diag ?_);have HH:(l'.any λo=> !(b&&iW t (cQ p.bu o)))=bif b then(l.any λo=> !iW s (cQ p.bu o))else l'.any λ_=>true:=by
   cases b with
   |false=>simp
   |true=>
    have D9:∀o,iW s o=iW t o:=λo=>(g3 rfl).rel.iW o;simp only [oK,cf,D9];exact(P4 hp.mem _).symm
  rw [HH];unfold fitAll;cases b with
  |false=>
   simp only [cE];cases l'.any λ_=>true with
   |true=>exact mW
   |false=>exact gr
  |true=>
   simp only [cf];cases l.any λo=> !iW s (cQ p.bu o)with
   |true=>exact mW
   |false=>exact gr
end
end
end Go.Proofs.YtomkobcipaligaaGreatDoor
namespace Go.aA
def ZP{p:Prop}(h:p:=by rw [dB,dB];cases h:a.length==b.length<;>simp at h⊢<;>omega):p:=h
def Ak{p:Prop}(h:p:=by rw [fK hi];rfl):p:=h
def QB{p:Prop}(h:p:=by refine aY (af ?_);erw [hc];rfl):p:=h
def ai2{p:Prop}(h:p:=by
 rw [hc];refine aj jc (bj (af ?_));erw [hc];rfl):p:=h
end Go.aA
namespace Go.Proofs.YtomkobcipaligaaGreatDoor
open Go Go.aA
theorem agS{m:Nat}{P:Nat->Bool->Prop}(h:∀i,i<m->∃b,P i b):∃f:Nat->Bool,∀i,i<m->P i (f i):=by
 have h':∀i,∃b,i<m->P i b:=λi=>by
  by_cases hi:i<m
  ·obtain⟨b,hb⟩:=h i hi;exact⟨b,λ_=>hb⟩
  ·exact⟨true,λh=>absurd h hi⟩
 obtain⟨f,hf⟩:=X9 h';exact⟨f,hf⟩
section
variable {p:PG} {ts:List TK} {ro:List RO} (ct:CT p ts ro) {w:WH} (hw:w.Ok) {cn:aW} (hc:az (au cn)=cn) {lf:Int} (hE:kO)
abbrev eh(x:EN):AV:= J [aa (ints x.ins),aa (ints x.outs)]
include ct hc in
theorem aFa{x:EN}{i:Nat}(hi:i<x.outs.length)(hx:ib x.outs[i] p.bu.length=true){l:cW}(hl:l.length<=mx)(hr:∀y∈l,ib y p.bu.length=true):
 Ev TL [aa (ints l),J (bB 3 w),eh x,J [iI (i:Int)],J (dM 4 5 p lf),ah (bf ro),.ab 0 cn] (0,[ak (l.any λo=> !oq (cQ p.bu x.outs[i]) (cQ p.bu o)),J (bB 3 w),eh x,J [iI (i:Int)],J (dM 4 5 p lf),ah (bf ro),.ab 0 cn]):=by
 refine KC (st:=[J (bB 3 w),eh x,J [iI (i:Int)],J (dM 4 5 p lf),ah (bf ro),.ab 0 cn]) (LF:=λN m=>H2 (FU CX EE N) N m [aa (ints l),iI (ln (ints l)),iI 0,J (bB 3 w),eh x,J [iI (i:Int)],J (dM 4 5 p lf),ah (bf ro),.ab 0 cn])
  (IX:=λN _=>FU CX EE N TP [aa (ints l),J (bB 3 w),eh x,J [iI (i:Int)],J (dM 4 5 p lf),ah (bf ro),.ab 0 cn])
  (scan (LF:=λj N m=>H2 (FU CX EE N) N m [aa (ints l),iI (ln (ints l)),iI (j:Int),J (bB 3 w),eh x,J [iI (i:Int)],J (dM 4 5 p lf),ah (bf ro),.ab 0 cn]) ?_ λj hj r q1 q2=> ?_) (λj hj=> ?_) (λhj=> ?_) λj hj=> ?_
 ·exact bD acb (ax dY (af (yo)))
 ·refine bD acb (br (dx hj) (aH (cN hj) ?_));rw [hc,fK hj,ix hj hl];have hy:=hr l[j] (dy hj);have q:Ev UU [iI l[j],J (bB 3 w),eh x,J [iI (i:Int)],J (dM 4 5 p lf),ah (bf ro),.ab 0 cn] (0,[ak (!oq (cQ p.bu x.outs[i]) (cQ p.bu l[j])),J (bB 3 w),eh x,J [iI (i:Int)],J (dM 4 5 p lf),ah (bf ro),.ab 0 cn]):=by
   have ea:gI (gA (ints x.outs) ((i:Int).toNat)) 0=x.outs[i]:=Ak;refine bx atB (aH (cN hi) (aH (by show ib (gI (gA (ints x.outs) ((i:Int).toNat)) 0) (cb p.bu).length =true;rw [ea,py];exact hx) (aH (by show ib l[j] (cb p.bu).length =true;rw [py];exact hy) ?_)));rw [hc];have e1:gA (cb p.bu) (gI (gA (ints x.outs) ((i:Int).toNat)) 0).toNat =gj (cQ p.bu x.outs[i]):=by rw [ea];exact mj hx
   erw [e1,mj hy];exact aj (abq (ct.ol.ok (qH hx)) (ct.ol.ok (qH hy))) aL
  refine aj q ?_;exact QS
 ·refine bx acm ?_;rw [hc];refine aj hj.diag (aY (af ?_));erw [hc];rfl
 ·refine bx acm ?_;rw [hc];refine aj hj.diag (bj (af ?_));erw [hc];rfl
 ·refine bx apV ?_;rw [hc];refine aj hj (af ?_);erw [hc];rfl
theorem G0(f:CE->Row)(g:Int->Row)(a:List CE)(b:cW):(ln (a.map f) != ln (b.map g))= !(a.length==b.length):=ZP
theorem Sj(f:PL->Row)(g:Int->Row)(a:List PL)(b:cW):(ln (a.map f) != ln (b.map g))= !(a.length==b.length):=ZP
include ct hw hc hE in
theorem aGF{f:dk}(hf:f.Ok):∃b,∀{L D H A:aW},
 Ev Nj [J (bB 0 w),J (cZ f L D H A),K0 p lf,ah (bf ro),.ab 0 cn] (0,ak b::fR p ro lf cn)∧
 Ev NS [bI p ts ro w,J (cZ f L D H A)] (0,[ak b]):=by
 have jc:∀{L D H A:aW},bK U5 [K0 p lf,ah (bf ro),.ab 0 cn,J (bB 0 w),J (cZ f L D H A)]
  (bif !(f.T==w.task)&&jx p f.T f.entry then(0,[K0 p lf,ah (bf ro),.ab 0 cn,J (bB 0 w),J (cZ f L D H A)])else(1,[aq,K0 p lf,ah (bf ro),.ab 0 cn,J (bB 0 w),J (cZ f L D H A)])):=by
  intro L D H A;refine bW ats ?_;rw [hc];refine aw (c:=f.T==w.task) (λh=>af (gv)) λh=>aj (SJ (lf:=lf) hc f.T f.entry) ?_;erw [hc];refine aw (c:= !jx p f.T f.entry) (λh2=>af ?_) λh2=>af ?_
  ·simp only [dX]at h2;rw [h,h2];rfl
  ·simp only [dL]at h2;rw [h,h2];rfl
 have jr:∀{L D H A:aW},bK V1 [bI p ts ro w,J (cZ f L D H A)]
  (bif !(f.T==w.task)&&jx p f.T f.entry then(0,[bI p ts ro w,J (cZ f L D H A)])else(1,[aq,bI p ts ro w,J (cZ f L D H A)])):=by
  intro L D H A;refine bW awe ?_;refine aw (c:=f.T==w.task) (λh=>af (gv)) λh=>aj (SH ct f.T f.entry) ?_;refine aw (c:= !jx p f.T f.entry) (λh2=>af ?_) λh2=>af ?_
  ·simp only [dX]at h2;rw [h,h2];rfl
  ·simp only [dL]at h2;rw [h,h2];rfl
 cases ha:(!(f.T==w.task)&&jx p f.T f.entry)with
 |false=>
  rw [ha]at jc jr;refine⟨false,λ{L D H A}=>⟨bx adN ?_,bx aeR (aj jr (bj aL))⟩⟩;exact ai2
 |true=>
 rw [ha]at jc jr;obtain⟨ht,he⟩:=YS (bM _ _▸ha).2;generalize hx:DB (ml p.tasks f.T).au f.entry=x;have hgt:=Gz ht;have D8:=aaB he;rw [hx]at D8;obtain⟨ef,aoU,fg,fY⟩:=ct.ent _ (Yk ht) _ (Yu he);rw [hx]at ef aoU fg fY;have t1:ib f.T (p.tasks.map cF).length =true:=by rw [ey];exact ht
 have t2:ib f.entry ((ml p.tasks f.T).au.map iP).length =true:=by rw [ey];exact he
 have aNU:∀{L D H A:aW},bK MX [K0 p lf,ah (bf ro),.ab 0 cn,J (cZ f L D H A),eh x]
  (bif (f.Ins.length==x.ins.length)&&(f.fM.length==x.outs.length)then(0,[K0 p lf,ah (bf ro),.ab 0 cn,J (cZ f L D H A),eh x])else(1,[aq,K0 p lf,ah (bf ro),.ab 0 cn,J (cZ f L D H A),eh x])):=by
  intro L D H A;refine bW asI ?_;rw [hc];refine aw (c:=ln (f.Ins.map aP) != ln (ints x.ins)) (λh=>af ?_) λh=>aw (c:=ln (f.fM.map c5) != ln (ints x.outs)) (λh2=>af ?_) λh2=>af ?_
  ·rw [G0]at h;simp only [dX]at h;rw [h];rfl
  ·rw [G0]at h;rw [Sj]at h2;simp only [dX,dL]at h h2;rw [h,h2];rfl
  ·rw [G0]at h;rw [Sj]at h2;simp only [dL]at h h2;rw [h,h2];rfl
 have aNT:∀{L D H A:aW},bK Nn [J (cZ f L D H A),eh x]
  (bif (f.Ins.length==x.ins.length)&&(f.fM.length==x.outs.length)then(0,[J (cZ f L D H A),eh x])else(1,[aq,J (cZ f L D H A),eh x])):=by
  intro L D H A;refine bW avd ?_;refine aw (c:=ln (f.Ins.map aP) != ln (ints x.ins)) (λh=>af ?_) λh=>aw (c:=ln (f.fM.map c5) != ln (ints x.outs)) (λh2=>af ?_) λh2=>af ?_
  ·rw [G0]at h;simp only [dX]at h;rw [h];rfl
  ·rw [G0]at h;rw [Sj]at h2;simp only [dX,dL]at h h2;rw [h,h2];rfl
  ·rw [G0]at h;rw [Sj]at h2;simp only [dL]at h h2;rw [h,h2];rfl
 have C1:∀{L D H A:aW} (r:UO),_->Ev Nj [J (bB 0 w),J (cZ f L D H A),K0 p lf,ah (bf ro),.ab 0 cn] r:=λ{L D H A} r h=>by
  refine bx adN ?_;rw [hc];refine aj jc (aY (aH t1 (aH (c:=ib f.entry ((gR (gA (p.tasks.map cF) f.T.toNat) 1).length)) (by rw [hgt];exact t2) ?_)));erw [hc];have hj:bK MX [K0 p lf,ah (bf ro),.ab 0 cn,J (cZ f L D H A),J [aa (gR (gA (gR (gA (p.tasks.map cF) f.T.toNat) 1) f.entry.toNat) 0),aa (gR (gA (gR (gA (p.tasks.map cF) f.T.toNat) 1) f.entry.toNat) 1)]] (bif (f.Ins.length==x.ins.length)&&(f.fM.length==x.outs.length)then(0,[K0 p lf,ah (bf ro),.ab 0 cn,J (cZ f L D H A),eh x])else(1,[aq,K0 p lf,ah (bf ro),.ab 0 cn,J (cZ f L D H A),eh x])):=by
   rw [hgt,show gR (cF (ml p.tasks f.T)) 1=(ml p.tasks f.T).au.map iP from rfl,D8];exact aNU
  refine aj hj ?_;exact h
 have R1:∀{L D H A:aW} (r:UO),_->Ev NS [bI p ts ro w,J (cZ f L D H A)] r:=λ{L D H A} r h=>by
  refine bx aeR ?_;refine aj jr (aY (aH (Q7 ct ht) (aH (c:=ib f.entry ((gR (gA (ts.map cF) f.T.toNat) 1).length)) (by rw [Cr ct ht];exact t2) ?_)));have hj:bK Nn [J (cZ f L D H A),J [aa (gR (gA (gR (gA (ts.map cF) f.T.toNat) 1) f.entry.toNat) 0),aa (gR (gA (gR (gA (ts.map cF) f.T.toNat) 1) f.entry.toNat) 1)]] (bif (f.Ins.length==x.ins.length)&&(f.fM.length==x.outs.length)then(0,[J (cZ f L D H A),eh x])else(1,[aq,J (cZ f L D H A),eh x])):=by
   rw [Cr ct ht,D8];exact aNT
  refine aj hj ?_;exact h
 cases hlen:((f.Ins.length==x.ins.length)&&(f.fM.length==x.outs.length))with
 |false=>
  rw [hlen]at C1 R1;refine⟨false,λ{L D H A}=>⟨C1 _ (bj (af ?_)),R1 _ (bj aL)⟩⟩;exact ju
 |true=>
 rw [hlen]at C1 R1;simp only [bM,iy]at hlen;obtain⟨Tj,hn2⟩:=hlen;obtain⟨b1,wy⟩:=agS (m:=f.Ins.length) (P:=λi b=>∀(h:i<f.Ins.length) (h':i<x.ins.length),Ev zN [J (bB 0 w),J (aP f.Ins[i]),aa (ints [x.ins[i]]),J (dM 1 2 p lf),ah (bf ro),.ab 0 cn] (0,ak b::fR p ro lf cn)∧Ev BK [bI p ts ro w,J (aP f.Ins[i]),iI x.ins[i]] (0,[ak b])) λi hi=>by
  have dZ:i<x.ins.length:=by omega
  obtain⟨s,t,b,g1,g2,g3⟩:=GA ct hw hc (lf:=lf) hE f.Ins[i] (hf.Ins.2 _ (dy hi));have ho:=ef x.ins[i] (dy dZ);refine⟨fitAll p s b [x.ins[i]],λ_ _=>⟨SB ct hc g1 (λh=>(g3 h).l) (one_le _) (λy hy=>by simp at hy;subst hy;exact ho),E.to (SA ct g2 (λh=>(g3 h).r) ho) ?_⟩⟩;unfold fitAll;cases b with
  |false=>rfl
  |true=>
   have D9:∀o,iW s o=iW t o:=λo=>(g3 rfl).rel.iW o;simp [D9]
 have k1:=vv (m:=f.Ins.length) (p:=λi=> !b1 i) (hit:=(0,aq::(fR p ro lf cn++[J (bB 0 w),eh x]))) (done:=(1,fR p ro lf cn++[J (bB 0 w),eh x])) (LF:=λi N m=>MR (FU CX EE N) N m [aT (f.Ins.map aP),iI (ln (f.Ins.map aP)),iI (i:Int),K0 p lf,ah (bf ro),.ab 0 cn,J (bB 0 w),eh x])
  (bD acY (ax dY (af (yo))))
  λi hi r q1 q2=>bD acY<|br (dx hi)<|aH (cN hi)<|aH (cN (f:=λn=>[iI n]) (l:=x.ins) (by omega))<|by
   have dZ:i<x.ins.length:=by omega
   rw [hc,sX hi,ix hi hf.Ins.1];have h1:=(wy i hi hi dZ).1;rw [show ints [x.ins[i]]=[[iI (gI (gA (gR [aa (ints x.ins),aa (ints x.outs)] 0) ((i:Int).toNat)) 0)]]by
    rw [show gA (gR [aa (ints x.ins),aa (ints x.outs)] 0) ((i:Int).toNat)=[iI x.ins[i]]from fK dZ];rfl]at h1
   refine aj h1 ?_;exact QS
 have k1r:=λ(L D H A:aW)=>vv (m:=f.Ins.length) (p:=λi=> !b1 i) (hit:=(0,[aq,bI p ts ro w,J (cZ f L D H A),eh x])) (done:=(1,[bI p ts ro w,J (cZ f L D H A),eh x])) (LF:=λi N m=>Ng (FU CX EE N) N m [iI (i:Int),bI p ts ro w,J (cZ f L D H A),eh x])
  (bD adu (ax (dY (f:=aP) (l:=f.Ins)) aL))
  λi hi r q1 q2=>bD adu<|br (dx (f:=aP) (l:=f.Ins) hi)<|aH (cN (f:=aP) (l:=f.Ins) hi)<|aH (cN (f:=λn=>[iI n]) (l:=x.ins) (by omega))<|by
   have dZ:i<x.ins.length:=by omega
   rw [show gR (cZ f L D H A) 13=f.Ins.map aP from rfl,sX hi,ix hi hf.Ins.1];have h1:=(wy i hi hi dZ).2;rw [show(iI x.ins[i])=iI (gI (gA (gR [aa (ints x.ins),aa (ints x.outs)] 0) ((i:Int).toNat)) 0)by
    rw [show gA (gR [aa (ints x.ins),aa (ints x.outs)] 0) ((i:Int).toNat)=[iI x.ins[i]]from fK dZ];rfl]at h1
   exact aj h1 (aw (λpU=>af (q1 pU)) q2)
 obtain⟨b2,jb⟩:=agS (m:=f.fM.length) (P:=λi b=>∀(h:i<f.fM.length) (h':i<x.outs.length),
  (∀r,(b=false->(0,aq::(fR p ro lf cn++[J (bB 0 w),eh x]))=r)->(b=true->bP EA [bH (f.fM.map c5),iI (ln (f.fM.map c5)),iI ((i+1:Nat):Int),K0 p lf,ah (bf ro),.ab 0 cn,J (bB 0 w),eh x] r)->
    bP EA [bH (f.fM.map c5),iI (ln (f.fM.map c5)),iI (i:Int),K0 p lf,ah (bf ro),.ab 0 cn,J (bB 0 w),eh x] r)∧
  (∀(L D H A:aW) r,(b=false->(0,[aq,bI p ts ro w,J (cZ f L D H A),eh x])=r)->(b=true->bP EJ [iI ((i+1:Nat):Int),bI p ts ro w,J (cZ f L D H A),eh x] r)->
    bP EJ [iI (i:Int),bI p ts ro w,J (cZ f L D H A),eh x] r)) λi hi=>by
  have dZ:i<x.outs.length:=by omega
  have ho:=aoU x.outs[i] (dy dZ);obtain⟨l,l',b,h1,h2,h3⟩:=plE ct hw hc (lf:=lf) hE (hf.fM.2 _ (dy hi));have Q6:No (gA (f.fM.map c5) ((i:Int).toNat))=c5 f.fM[i]:=Ak;cases b with
  |false=>
   refine⟨false,λ_ _=>⟨λr r1 _=>bD Uh (br (dx hi) (aH (cN hi) ?_)),λL D H A r r1 _=>bD UW (br (dx (f:=c5) (l:=f.fM) hi) (aH (cN (f:=c5) (l:=f.fM) hi) ?_))⟩⟩
   ·rw [hc,Q6];refine aj h1 ?_;erw [hc];exact aY (af (r1 rfl))
   ·rw [show gR (cZ f L D H A) 15=f.fM.map c5 from rfl,Q6];exact aj h2 (aY (af (r1 rfl)))
  |true=>
   have hp:=h3 rfl;have nW:∀y∈l',ib y p.bu.length=true:=λy hy=>hp.jz y ((hp.mem y).2 hy);have eJ:=aFa ct (w:=w) hc (lf:=lf) dZ ho hp.len hp.jz;have ea:gI (gA (ints x.outs) ((i:Int).toNat)) 0=x.outs[i]:=by rw [fK dZ];rfl
   have jY:=pq (l:=l') (p:=λo=> !oq (cQ p.bu x.outs[i]) (cQ p.bu o)) (hit:=(0,[aq,bI p ts ro w,eh x])) (done:=(1,[bI p ts ro w,eh x])) (LF:=λj N m=>MQ (FU CX EE N) N m [iI (i:Int),aa (ints l'),iI (j:Int),bI p ts ro w,eh x])
    (bD acX (ax dY aL))
    λj hj r q1 q2=>bD acX<|br (dx hj)<|aH (cN (f:=λn=>[iI n]) (l:=x.outs) dZ)<|aH (by show ib (gI (gA (ints x.outs) ((i:Int).toNat)) 0) (cb p.bu).length =true;rw [ea,py];exact ho)<|aH (cN hj)<|by
     rw [fK hj,ix hj hp.aoJ];have hy:=nW l'[j] (dy hj);refine aH (by show ib l'[j] (cb p.bu).length =true;rw [py];exact hy) ?_;have e1:gA (cb p.bu) (gI (gA (ints x.outs) ((i:Int).toNat)) 0).toNat =gj (cQ p.bu x.outs[i]):=by rw [ea];exact mj ho
     erw [e1,mj hy];exact aj (abp (ct.ol.ok (qH ho)) (ct.ol.ok (qH hy))) (aw (λpU=>af (q1 pU)) q2)
   rw [<-P4 hp.mem]at jY;refine⟨!(l.any λo=> !oq (cQ p.bu x.outs[i]) (cQ p.bu o)),λ_ _=>⟨λr r1 r2=>bD Uh (br (dx hi) (aH (cN hi) ?_)),λL D H A r r1 r2=>bD UW (br (dx (f:=c5) (l:=f.fM) hi) (aH (cN (f:=c5) (l:=f.fM) hi) ?_))⟩⟩
   ·rw [hc,Q6,ix hi hf.fM.1];refine aj h1 ?_;erw [hc];refine bj (aj eJ ?_);erw [hc];exact aw (c:=l.any λo=> !oq (cQ p.bu x.outs[i]) (cQ p.bu o)) (λh=>af (r1 (gv))) λh=>r2 (gv)
   ·rw [show gR (cZ f L D H A) 15=f.fM.map c5 from rfl,Q6,ix hi hf.fM.1];refine aj h2 (bj (aj jY.diag ?_));cases h:l.any λo=> !oq (cQ p.bu x.outs[i]) (cQ p.bu o)with
    |true=>exact aY (af (r1 (gv)))
    |false=>exact bj (r2 (gv))
 have k2:=vv (m:=f.fM.length) (p:=λi=> !b2 i) (hit:=(0,aq::(fR p ro lf cn++[J (bB 0 w),eh x]))) (done:=(1,fR p ro lf cn++[J (bB 0 w),eh x])) (LF:=λi N m=>EA (FU CX EE N) N m [bH (f.fM.map c5),iI (ln (f.fM.map c5)),iI (i:Int),K0 p lf,ah (bf ro),.ab 0 cn,J (bB 0 w),eh x])
  (bD Uh (ax dY (af (yo))))
  λi hi r q1 q2=>(jb i hi hi (by omega)).1 r (λh=>q1 (gv)) λh=>q2 (gv)
 have k2r:=λ(L D H A:aW)=>vv (m:=f.fM.length) (p:=λi=> !b2 i) (hit:=(0,[aq,bI p ts ro w,J (cZ f L D H A),eh x])) (done:=(1,[bI p ts ro w,J (cZ f L D H A),eh x])) (LF:=λi N m=>EJ (FU CX EE N) N m [iI (i:Int),bI p ts ro w,J (cZ f L D H A),eh x])
  (bD UW (ax (dY (f:=c5) (l:=f.fM)) aL))
  λi hi r q1 q2=>(jb i hi hi (by omega)).2 L D H A r (λh=>q1 (gv)) λh=>q2 (gv)
 generalize (List.range f.Ins.length).any (λi=> !b1 i)=a1 at k1 k1r;generalize (List.range f.fM.length).any (λi=> !b2 i)=a2 at k2 k2r;have aNS:∀{L D H A:aW},bK UK [K0 p lf,ah (bf ro),.ab 0 cn,J (bB 0 w),J (cZ f L D H A),eh x]
  (bif a1 then(1,[aq,K0 p lf,ah (bf ro),.ab 0 cn,J (bB 0 w),J (cZ f L D H A),eh x])else(0,[K0 p lf,ah (bf ro),.ab 0 cn,J (bB 0 w),J (cZ f L D H A),eh x])):=by
  intro L D H A;refine bW asH ?_;rw [hc];refine aj k1.diag ?_;cases a1 with
  |true=>exact QB
  |false=>exact C9
 have aNR:∀{L D H A:aW},bK VG [bI p ts ro w,J (cZ f L D H A),eh x]
  (bif a1 then(1,[aq,bI p ts ro w,J (cZ f L D H A),eh x])else(0,[bI p ts ro w,J (cZ f L D H A),eh x])):=by
  intro L D H A;refine bW avc (aj (k1r L D H A).diag ?_);cases a1 with
  |true=>exact mW
  |false=>exact gr
 refine⟨!a1&& !a2,λ{L D H A}=>⟨C1 _ (aY ?_),R1 _ (aY (aj aNR ?_))⟩⟩
 ·simp only [cf];erw [hc];refine aj aNS ?_;cases a1 with
  |true=>exact C9
  |false=>
   refine aY ?_;simp only [cE];erw [hc];refine aj k2.diag ?_;cases a2 with
   |true=>exact QB
   |false=>exact C9
 ·cases a1 with
  |true=>exact gr
  |false=>
   refine aY (aj (k2r L D H A).diag ?_);cases a2 with
   |true=>exact mW
   |false=>exact gr
end
end Go.Proofs.YtomkobcipaligaaGreatDoor
