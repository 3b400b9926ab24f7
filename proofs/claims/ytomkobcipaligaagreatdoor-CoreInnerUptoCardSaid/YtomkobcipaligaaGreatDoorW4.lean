/-
  Calls, on both sides.
-/
import Derived.Test.YtomkobcipaligaaGreatDoorW3
import Derived.KernelRfl
set_option linter.all false
set_option linter.deprecated false
set_option maxHeartbeats 4000000
namespace Go.Proofs.YtomkobcipaligaaGreatDoor
open Go Go.az Qm
set_option maxRecDepth 100000
noncomputable section
variable {G:Nat->bp->Option UO} {N n:Nat} {i0 i1 i2 i3:Int} {l0 l1 l2 l3 l4:bp} {r0 r1 r2 r3 r4 r5 r6:aZ} {yP Dl:Nat}
def ay5:ca CX EE G N V8 [J l0]=(bO (UJ G N [bE (gI l0 0)]) λ_ o1=>bif gB o1 0 then bO (G adM [bR l0,J [bE (gI l0 0),bE 0,iI 0,iI 0,iI 0,iI 0,iI 0,iI 0,.aA 2],aT cy]) λ_ o2=>ae [J (sT (nz (gC o2 1)) [(8,aT (gR o2 2))]),iI 0]else bif gI l0 0==2 then bO (G M5 [bR l0,J [bE (gI l0 0),bE 0,iI 0,iI 0,iI 0,iI 0,iI 0,iI 0,.aA 2],aT cy]) λ_ o3=>bO (G Vz [bR (gC o3 0),J (sT (nA (gC o3 1)) og),aT (gR o3 2)]) λ_ o4=>ae [J (sT (nz (gC o4 1)) [(8,aT (gR o4 2))]),iI 0]else bif gI l0 0==3 then bO (G M5 [bR l0,J [bE (gI l0 0),bE 0,iI 0,iI 0,iI 0,iI 0,iI 0,iI 0,.aA 2],aT cy]) λ_ o5=>bO (G Vz [bR (gC o5 0),J (sT (nA (gC o5 1)) og),aT (gR o5 2)]) λ_ o6=>bO (G adL [bR (gC o6 0),J (sT (nA (gC o6 1)) og),aT (gR o6 2)]) λ_ o7=>ae [J (sT (nz (gC o7 1)) [(8,aT (gR o7 2))]),iI 1]else bif gI l0 0==4 then bO (G Vy [bR l0,J [bE (gI l0 0),bE 0,iI 0,iI 0,iI 0,iI 0,iI 0,iI 0,.aA 2],aT cy]) λ_ o8=>ae [J (sT (nz (gC o8 1)) [(8,aT (gR o8 2))]),iI 1]else bif gI l0 0==5 then bO (G Vy [bR l0,J [bE (gI l0 0),bE 0,iI 0,iI 0,iI 0,iI 0,iI 0,iI 0,.aA 2],aT cy]) λ_ o9=>ae [J (sT (nz (gC o9 1)) [(8,aT (gR o9 2))]),iI 2]else bO (TQ G N [bE (gI l0 0)]) λ_ cL=>bif gB cL 0 then ae [J [bE (gI l0 0),bE 0,iI 0,iI 0,iI 0,iI 0,iI 0,iI 0,aT ([])],iI 2]else bif gI l0 0==8 then ae [J [bE (gI l0 0),bE 0,iI 0,iI 0,iI 0,iI 0,iI 0,iI 0,aT ([])],iI 3]else bif gI l0 0==9 then bO (G adK [bR l0,J [bE (gI l0 0),bE 0,iI 0,iI 0,iI 0,iI 0,iI 0,iI 0,.aA 2],aT cy]) λ_ cP=>ae [J (sT (nz (gC cP 1)) [(8,aT (gR cP 2))]),iI 1]else bif gI l0 0==12 then bO (G M5 [bR l0,J [bE (gI l0 0),bE 0,iI 0,iI 0,iI 0,iI 0,iI 0,iI 0,.aA 2],aT cy]) λ_ dc=>ae [J (sT (nz (gC dc 1)) [(8,aT (gR dc 2))]),iI 0]else bif gI l0 0==13 then ae [J [bE (gI l0 0),bE 0,iI 0,iI 0,iI 0,iI 0,iI 0,iI 0,aT ([])],iI 1]else ae [J [bE (gI l0 0),bE 0,iI 0,iI 0,iI 0,iI 0,iI 0,iI 0,aT ([])],iI (-1)]:aJ):=by kernel_rfl
def ase:ca CX EE G N Hr [dL r0]=(bif r0.isEmpty then none else aP (lu ((0+r0.length)*48) 140737488355328)<|ae [dL ((([]:aZ))++r0)]:aJ):=by kernel_rfl
def aqm:ca CX EE G N A8 []=(ae [dL cy]:aJ):=by kernel_rfl
def aql:ca CX EE G N A7 []=(ae [dL cy]:aJ):=by kernel_rfl
def as8:ca CX EE G N Bf [J l0,iI i1,iI i2]=(bif ck 0 i1 then bif aV i1 (ln (gR l0 0))then bif ck 0 i2 then br i1 (gR l0 0)<|ae [ak (aV i2 (gI (aD (gR l0 0) i1) 0))]else bZ else bZ else bZ:aJ):=by kernel_rfl
def avd:ca CX EE G N Mz [J l0,iI i1,iI i2,iI i3]=(bif ck 0 i1 then bif aV i1 (ln (gR l0 0))then br i1 (gR l0 0)<|bif !(gB (aD (gR l0 0) i1) 3)then bif ck 0 i2 then bif ck 1 i3 then br i1 (gR l0 0)<|bif ck i2 (gI (aD (gR l0 0) i1) 0)then br i1 (gR l0 0)<|ae [ak (ck i3 (bx ((gI (aD (gR l0 0) i1) 0)- i2)))]else bZ else bZ else bZ else bZ else bZ else bZ:aJ):=by kernel_rfl
def aAi:ca CX EE G N xA []=(ae [J sI]:aJ):=by kernel_rfl
def at6:ca CX EE G N qV [J l0]=(bif !(gB l0 0)then bif ck 0 (gI l0 3)then ae [ak (ck (gI l0 4) 1)]else bZ else bZ:aJ):=by kernel_rfl
def azP:ca CX EE G N NZ []=(ae [J Kw]:aJ):=by kernel_rfl
def awj:Vv G N [J l0,J l1]=(bif !(gB l0 0)then ae [ak (!(gB l1 0)),cG l0,cG l1]else ae [aq,cG l0,cG l1]:aJ):=by kernel_rfl
def au6:Va G N [bE i0]=(bif ck 1 i0 then ae [ak (ck i0 6)]else bZ:aJ):=by kernel_rfl
def atZ:UK G N [bE i0]=(bif i0==7 then c8 else ae [ak (i0==8)]:aJ):=by kernel_rfl
def ayi:ca CX EE G N VS [bE i0,J l1,J l2]=(bO (Vv G N [cG l1,cG l2]) λ_ o1=>bO (Va G N [bE i0]) λ_ o2=>bif gB o2 0 then bO (G NZ []) λ_ o3=>ae [cG (gC o3 0),ak (gB o1 0)]else bO (UK G N [bE i0]) λ_ o4=>bif gB o4 0 then bO (G xA []) λ_ o5=>bif gB o1 0 then ae [cG (gC o5 0),cu]else bif gB (gC o1 1) 0 then bif gB (gC o1 2) 0 then ae [cG (gC o5 0),cu]else ae [cG (gC o5 0),ak (gB (gC o1 2) 1)]else bif gB (gC o1 1) 1 then bif gB (gC o1 2) 0 then ae [cG (gC o5 0),cu]else ae [cG (gC o5 0),ak (gB (gC o1 2) 1)]else ae [cG (gC o5 0),aq]else bif ck 9 i0 then bif ck i0 12 then bO (G xA []) λ_ o6=>ae [cG (gC o6 0),ak (gB o1 0)]else bif ck 13 i0 then bif ck i0 15 then bO (G xA []) λ_ o7=>bO (G qV [cG (gC o1 1)]) λ_ o8=>bif gB o8 0 then bO (G qV [cG (gC o1 2)]) λ_ o9=>ae [cG (gC o7 0),ak (gB o9 0)]else ae [cG (gC o7 0),aq]else ae [J pw,aq]else ae [J pw,aq]else bif ck 13 i0 then bif ck i0 15 then bO (G xA []) λ_ cL=>bO (G qV [cG (gC o1 1)]) λ_ cP=>bif gB cP 0 then bO (G qV [cG (gC o1 2)]) λ_ dc=>ae [cG (gC cL 0),ak (gB dc 0)]else ae [cG (gC cL 0),aq]else ae [J pw,aq]else ae [J pw,aq]:aJ):=by kernel_rfl
def abr:DR G N (n+1) [iI i0,.vw 0 yP Dl,iI i2,aa r3]=(bif aV i2 ((Dl:Int))then aP (ck 0 i2&&aV i2 (Dl:Int))<|aP (dw (yP+i2.toNat) (r3.length))<|aP (ck 0 (bx (i2- 1))&&aV (bx (i2- 1)) (Dl:Int))<|aP (dw (yP+((bx (i2- 1)).toNat)) (r3.length))<|bif gI (gA r3 (yP+i2.toNat)) 0 != gI (gA r3 (yP+((bx (i2- 1)).toNat))) 0 then aP (ck 0 i2&&aV i2 (Dl:Int))<|aP (dw (yP+i2.toNat) (r3.length))<|br i0 r3<|aP (dw (i0.toNat) (r3.length))<|DR G N n [cz i0,.vw 0 yP Dl,cz i2,aa (r3.set i0.toNat (setAt (aD r3 i0) 0 [iI (gI (gA r3 (yP+i2.toNat)) 0)]))]else DR G N n [iI i0,.vw 0 yP Dl,cz i2,aa r3]else ae [iI i0,aa r3]:aJ):=by kernel_rfl
def abu:Hh G N (n+1) [iI i0,aa r1]=(bif aV i0 (ln r1)then br i0 r1<|aP (dw (i0.toNat) (r1.length))<|br (bx (i0- 1)) r1<|aP (dw ((bx (i0- 1)).toNat) (r1.length))<|bif gI (aD r1 i0) 0==gI (aD r1 (bx (i0- 1))) 0 then aP (ck 0 i0&&ck i0 (ln r1)&&ck (ln r1) (ln r1))<|bO (DR G N N [iI i0,.vw 0 i0.toNat (r1.length- i0.toNat),iI 1,aa r1]) λ_ o1=>aP (ck 0 (gI o1 0)&&ck (gI o1 0) (ln (gR o1 1))&&ck (ln (gR o1 1)) (ln (gR o1 1)))<|aP (ck 0 (gI o1 0)&&ck (gI o1 0) (ln (pI ([iI 0]) (gR o1 1) ((gI o1 0).toNat) (((gR o1 1).length)-((gI o1 0).toNat))))&&ck (ln (pI ([iI 0]) (gR o1 1) ((gI o1 0).toNat) (((gR o1 1).length)-((gI o1 0).toNat)))) (ln (pI ([iI 0]) (gR o1 1) ((gI o1 0).toNat) (((gR o1 1).length)-((gI o1 0).toNat)))))<|ae [aa ((pI ([iI 0]) (gR o1 1) ((gI o1 0).toNat) (((gR o1 1).length)-((gI o1 0).toNat))).take ((gI o1 0).toNat))]else Hh G N n [cz i0,aa r1]else aN [aa r1]:aJ):=by kernel_rfl
def abz:ca CX EE G N S7 [aa r0]=(bif aV (ln r0) 2 then ae [aa r0]else bO (Hh G N N [iI 1,aa r0]) λq2 o2=>bif bQ q2 then ae [aa (gR o2 0)]else ae [aa (gR o2 0)]:aJ):=by kernel_rfl
def awi:Vu G N [J l0,J l1,J l2,aa r3]=(bif !(gB l0 0)then bif !(gB l1 0)then aN [cu,cG l0,cG l1,J [aq,aq,.aA 3,iI (nk (gI l0 3) (gI l1 3)),iI (imax (gI l0 4) (gI l1 4))],aa cy]else ae [cG l0,cG l1,J (sT (eT l2) oe),aa r3]else ae [cG l0,cG l1,J (sT (eT l2) oe),aa r3]:aJ):=by kernel_rfl
def Ud:uD G N (n+1) [iI i0,iI i1,J l2,J l3,dL r4,aa r5,aa r6]=(bif aV i1 i0 then br i1 r4<|aP (dw (i1.toNat) (r4.length))<|bif !(gB (aD r4 i1) 0)then bif !(gB (aD r4 i1) 1)then ae [aq,J [aq,aq,.aA 3,iI 0,iI 0],J (sT (eT l3) nm),dL r4,aa cy,aa r6]else bif gB (aD r4 i1) 0 then aP (yQ r6 (gR (aD r4 i1) 2))<|uD G N n [iI i0,cz i1,J (sT (eT l2) oe),J (sT (eT l3) nm),dL r4,aa r5,aa (r6++(gR (aD r4 i1) 2))]else uD G N n [iI i0,cz i1,J (sT (eT l2) oe),J (sT (eT l3) nm),dL r4,aa r5,aa r6]else bif gB (aD r4 i1) 0 then aP (yQ r6 (gR (aD r4 i1) 2))<|uD G N n [iI i0,cz i1,J (sT (eT l2) oe),J (sT (eT l3) nm),dL r4,aa r5,aa (r6++(gR (aD r4 i1) 2))]else uD G N n [iI i0,cz i1,J (sT (eT l2) oe),J (sT (eT l3) nm),dL r4,aa r5,aa r6]else aN [J (sT (eT l2) oe),J (sT (eT l3) nm),dL r4,aa r5,aa r6]:aJ):=by kernel_rfl
def ayg:ca CX EE G N H3 [J l0,J l1]=(bO (Vu G N [cG l0,cG l1,J [aq,aq,.aA 3,iI 0,iI 0],aa cy]) λq1 o1=>bif bQ q1 then bO (uD G N N [iI 2,iI 0,J (sT (eT (gC o1 2)) oe),J [cu,aq,.aA 4,iI 0,iI 0],dL (([js (gC o1 0),js (gC o1 1)]:aZ)),aa (gR o1 3),aa cy]) λq2 o2=>bif bQ q2 then ae [J (sT (eT (gC o2 1)) qD),ak (gB o2 0),aa (gR o2 4)]else bO (G L4 [aa (gR o2 4)]) λ_ o3=>bO (G S7 [aa (gR o3 0)]) λ_ o4=>ae [J (sT (eT (gC o2 1)) qD),cu,aa (gR o4 0)]else ae [J (sT (eT (gC o1 3)) qD),ak (gB o1 0),aa (gR o1 4)]:aJ):=by kernel_rfl
def aqk:abR G N [J l0,J l1,aa r2]=(bif !(gB l0 0)then bif !(gB l0 1)then aN [aq,cG l0,J [aq,aq,.aA 2,iI 0,iI 0],aa cy]else ae [cG l0,J (sT (eT l1) pq),aa r2]else ae [cG l0,J (sT (eT l1) pq),aa r2]:aJ):=by kernel_rfl
def abw:DU G N (n+1) [aa r0,iI i1,iI i2,J l3,J l4,aa r5]=(bif aV i2 i1 then br i2 r0<|br (gI (aD r0 i2) 0) (gR l3 0)<|bif i2==0 then DU G N n [aa r0,iI i1,cz i2,J [bJ (gR l3 0),iI (gI l3 1)],J [aq,aq,.aA 2,iI (nk (gI (aD (gR l3 0) (gI (aD r0 i2) 0)) 1) (gI (aD (gR l3 0) (gI (aD r0 i2) 0)) 1)),iI (imax (gI (aD (gR l3 0) (gI (aD r0 i2) 0)) 2) (gI (aD (gR l3 0) (gI (aD r0 i2) 0)) 2))],aa cy]else DU G N n [aa r0,iI i1,cz i2,J [bJ (gR l3 0),iI (gI l3 1)],J [ak (gB l4 0),ak (gB l4 1),.aA 2,iI (nk (gI l4 3) (gI (aD (gR l3 0) (gI (aD r0 i2) 0)) 1)),iI (imax (gI l4 4) (gI (aD (gR l3 0) (gI (aD r0 i2) 0)) 2))],aa r5]else ae [J [bJ (gR l3 0),iI (gI l3 1)],J (sT (eT l4) pq),aa r5]:aJ):=by kernel_rfl
def ary:ca CX EE G N TE [J l0,J l1]=(bO (abR G N [cG l1,J [aq,aq,.aA 2,iI 0,iI 0],aa cy]) λq1 o1=>bif bQ q1 then bO (DU G N N [aa (gR (gC o1 0) 2),iI (ln (gR (gC o1 0) 2)),iI 0,J [bJ (gR l0 0),iI (gI l0 1)],J [aq,aq,.aA 2,iI 0,iI 0],aa cy]) λ_ o2=>ae [J (sT (eT (gC o2 1)) qD),cu,aa (gR o2 2)]else ae [J (sT (eT (gC o1 2)) qD),ak (gB o1 0),aa (gR o1 3)]:aJ):=by kernel_rfl
def arp:TO G N [iI i0,J l1,J l2,J l3,aa r4]=(bif i0 != ln (gR l1 8)then aN [aq,bR l1,J [aq,aq,.aA 3,iI 0,iI 0],bR l3,aa cy]else bif gI l3 2 != gI l1 2 then aN [aq,bR l1,J [aq,aq,.aA 3,iI 0,iI 0],bR l3,aa cy]else bif gI l3 1 != gI l1 1 then aN [aq,bR l1,J [aq,aq,.aA 3,iI 0,iI 0],bR l3,aa cy]else bif gI l3 3 != gI l1 3 then aN [aq,bR l1,J [aq,aq,.aA 3,iI 0,iI 0],bR l3,aa cy]else bif gI l3 4 != gI l1 4 then aN [aq,bR l1,J [aq,aq,.aA 3,iI 0,iI 0],bR l3,aa cy]else bif gI l3 5 != gI l1 5 then aN [aq,bR l1,J [aq,aq,.aA 3,iI 0,iI 0],bR l3,aa cy]else bif gI l3 6 != gI l1 6 then aN [aq,bR l1,J [aq,aq,.aA 3,iI 0,iI 0],bR l3,aa cy]else bif gI l3 7 != gI l1 7 then aN [aq,bR l1,J [aq,aq,.aA 3,iI 0,iI 0],bR l3,aa cy]else ae [bR l1,J (sT (eT l2) oe),bR l3,aa r4]:aJ):=by kernel_rfl
def ap1:Td G N [dL r0,iI i1,dL r2,J l3,dL r4]=(bif gI l3 0==10 then bif i1==1 then bO (Ah Ez (G A8) (G A7) (G Hr) [dL r0]) λ_ o3=>aP (aV 0 (ln r4))<|aP (dw 0 (r4.length))<|aP (lu (((gR o3 0).length +(([js (gA r4 0)]:aZ)).length)*48) 140737488355328)<|ae [dL ((gR o3 0)++(([js (gA r4 0)]:aZ))),bR l3,dL r4]else ae [dL r2,bR l3,dL r4]else ae [dL r2,bR l3,dL r4]:aJ):=by kernel_rfl
end
noncomputable section
variable {G:Nat->bp->Option UO} {N n:Nat} {b0:Bool} {i0 i1 i2 i3:Int} {l0 l1 l2 l3 l4 l5 l6:bp} {r0 r1 r2 r4 r5 r7 r8:aZ}
def abL:vU G N (n+1) [dL r0,aT r1,iI i2,iI i3,J l4,J l5,J l6,dL r7,aa r8]=(bif aV i3 i2 then br i3 r1<|bO (Td G N [dL r0,iI i3,dL r0,bR l5,dL r7]) λ_ o4=>bO (G HC [J [bJ (gR l4 0),iI (gI l4 1)],bR (aD r1 i3),dL (gR o4 0)]) λ_ o5=>bif !(gB o5 1)then ae [aq,J [bJ (gR l4 0),iI (gI l4 1)],bR (gC o4 1),J [aq,aq,.aA 3,iI 0,iI 0],aa cy]else aP (lu (((gR o4 2).length +1)*48) 140737488355328)<|vU G N n [dL r0,aT r1,iI i2,cz i3,J [bJ (gR l4 0),iI (gI l4 1)],bR (gC o4 1),J (sT (eT l6) nm),dL ((gR o4 2)++(([js (gC o5 0)]:aZ))),aa r8]else aN [J [bJ (gR l4 0),iI (gI l4 1)],bR l5,J (sT (eT l6) nm),dL r7,aa r8]:aJ):=by kernel_rfl
def aro:L9 G N [dL r0,J l1,J l2,J l3,dL r4,aa r5]=(bO (vU G N N [dL r0,aT (gR l2 8),iI (ln (gR l2 8)),iI 0,J [bJ (gR l1 0),iI (gI l1 1)],bR l2,J (sT (eT l3) nm),dL r4,aa r5]) λq6 o6=>bif bQ q6 then aN [ak (gB o6 0),J [bJ (gR (gC o6 1) 0),iI (gI (gC o6 1) 1)],bR (gC o6 2),J (sT (eT (gC o6 3)) oe),aa (gR o6 4)]else ae [J [bJ (gR (gC o6 0) 0),iI (gI (gC o6 0) 1)],bR (gC o6 1),J (sT (eT (gC o6 2)) nm),dL (gR o6 3),aa (gR o6 4)]:aJ):=by kernel_rfl
def apC:S4 G N [bE i0]=(bif i0==6 then c8 else ae [ak (i0==7)]:aJ):=by kernel_rfl
def Uh:ca CX EE G N HC [J l0,J l1,dL r2]=(bO (G V8 [bR l1]) λ_ o1=>bO (TO G N [iI (gI o1 1),bR l1,J [aq,aq,.aA 3,iI 0,iI 0],bR (gC o1 0),aa cy]) λq2 o2=>bif bQ q2 then bO (L9 G N [dL r2,J [bJ (gR l0 0),iI (gI l0 1)],bR (gC o2 0),J (sT (eT (gC o2 1)) nm),dL cy,aa (gR o2 3)]) λq7 o7=>bif bQ q7 then bif gI (gC o7 1) 0==1 then bif ck (-2147483648) (gI (gC o7 1) 2)then ae [J [aq,ak (gI (gC o7 1) 2==0),aa cy,iI (gI (gC o7 1) 2),iI (gI (gC o7 1) 2)],ak (ck (gI (gC o7 1) 2) 2147483647)]else ae [J [aq,ak (gI (gC o7 1) 2==0),aa cy,iI (gI (gC o7 1) 2),iI (gI (gC o7 1) 2)],aq]else bif gI (gC o7 1) 0==2 then bO (G Bf [J [bJ (gR (gC o7 0) 0),iI (gI (gC o7 0) 1)],iI (gI (gC o7 1) 3),iI (gI (gC o7 1) 4)]) λ_ o8=>bif !(gB o8 0)then ae [J pw,aq]else br (gI (gC o7 1) 3) (gR (gC o7 0) 0)<|ae [J [ak (gB (aD (gR (gC o7 0) 0) (gI (gC o7 1) 3)) 3),aq,aa (gR (aD (gR (gC o7 0) 0) (gI (gC o7 1) 3)) 4),iI (gI (aD (gR (gC o7 0) 0) (gI (gC o7 1) 3)) 1),iI (gI (aD (gR (gC o7 0) 0) (gI (gC o7 1) 3)) 2)],cu]else bif gI (gC o7 1) 0==3 then bO (G Mz [J [bJ (gR (gC o7 0) 0),iI (gI (gC o7 0) 1)],iI (gI (gC o7 1) 3),iI (gI (gC o7 1) 4),iI (gI (gC o7 1) 5)]) λ_ o9=>bif !(gB o9 0)then ae [J pw,aq]else aP (aV 0 (ln (gR o7 3)))<|aP (dw 0 ((gR o7 3).length))<|bif gB (gA (gR o7 3) 0) 0 then ae [J pw,aq]else br (gI (gC o7 1) 3) (gR (gC o7 0) 0)<|br (gI (gC o7 1) 3) (gR (gC o7 0) 0)<|ae [J [aq,aq,aa cy,iI (gI (aD (gR (gC o7 0) 0) (gI (gC o7 1) 3)) 1),iI (gI (aD (gR (gC o7 0) 0) (gI (gC o7 1) 3)) 2)],cu]else bif gI (gC o7 1) 0==4 then bif gI (gC o7 1) 1==18 then bO (G xA []) λ_ cL=>aP (aV 0 (ln (gR o7 3)))<|aP (dw 0 ((gR o7 3).length))<|bO (G qV [cG (gA (gR o7 3) 0)]) λ_ cP=>ae [cG (gC cL 0),ak (gB cP 0)]else bO (G NZ []) λ_ dc=>bif gI (gC o7 1) 1==16 then aP (aV 0 (ln (gR o7 3)))<|aP (dw 0 ((gR o7 3).length))<|ae [cG (gC dc 0),ak (!(gB (gA (gR o7 3) 0) 0))]else bif gI (gC o7 1) 1==17 then aP (aV 0 (ln (gR o7 3)))<|aP (dw 0 ((gR o7 3).length))<|ae [cG (gC dc 0),ak (!(gB (gA (gR o7 3) 0) 0))]else ae [cG (gC dc 0),aq]else bif gI (gC o7 1) 0==5 then aP (aV 0 (ln (gR o7 3)))<|aP (dw 0 ((gR o7 3).length))<|aP (aV 1 (ln (gR o7 3)))<|aP (dw 1 ((gR o7 3).length))<|bO (G VS [bE (gI (gC o7 1) 1),cG (gA (gR o7 3) 0),cG (gA (gR o7 3) 1)]) λ_ eV=>ae [cG (gC eV 0),ak (gB eV 1)]else bO (S4 G N [bE (gI (gC o7 1) 0)]) λ_ c7=>bif gB c7 0 then bO (G xA []) λ_ dh=>aP (aV 0 (ln (gR o7 3)))<|aP (dw 0 ((gR o7 3).length))<|bO (G qV [cG (gA (gR o7 3) 0)]) λ_ fI=>bif gB fI 0 then aP (aV 1 (ln (gR o7 3)))<|aP (dw 1 ((gR o7 3).length))<|bO (G qV [cG (gA (gR o7 3) 1)]) λ_ dj=>ae [cG (gC dh 0),ak (gB dj 0)]else ae [cG (gC dh 0),aq]else bif gI (gC o7 1) 0==8 then aP (aV 1 (ln (gR o7 3)))<|aP (dw 1 ((gR o7 3).length))<|aP (aV 2 (ln (gR o7 3)))<|aP (dw 2 ((gR o7 3).length))<|bO (G H3 [cG (gA (gR o7 3) 1),cG (gA (gR o7 3) 2)]) λ_ fW=>bif gB fW 1 then aP (aV 0 (ln (gR o7 3)))<|aP (dw 0 ((gR o7 3).length))<|bO (G qV [cG (gA (gR o7 3) 0)]) λ_ gZ=>ae [J (sT (js (gC fW 0)) [(2,aa (gR fW 2))]),ak (gB gZ 0)]else ae [J (sT (js (gC fW 0)) [(2,aa (gR fW 2))]),aq]else bif gI (gC o7 1) 0==9 then bif ck (-2147483648) (gI (gC o7 1) 6)then bif ck (gI (gC o7 1) 7) 2147483647 then bif ck (gI (gC o7 1) 6) (gI (gC o7 1) 7)then aP (aV 0 (ln (gR o7 3)))<|aP (dw 0 ((gR o7 3).length))<|ae [J [aq,aq,aa cy,iI (gI (gC o7 1) 6),iI (gI (gC o7 1) 7)],ak (!(gB (gA (gR o7 3) 0) 0))]else ae [J [aq,aq,aa cy,iI (gI (gC o7 1) 6),iI (gI (gC o7 1) 7)],aq]else ae [J [aq,aq,aa cy,iI (gI (gC o7 1) 6),iI (gI (gC o7 1) 7)],aq]else ae [J [aq,aq,aa cy,iI (gI (gC o7 1) 6),iI (gI (gC o7 1) 7)],aq]else bif gI (gC o7 1) 0==10 then aP (aV 1 (ln (gR o7 3)))<|aP (dw 1 ((gR o7 3).length))<|aP (aV 1 (ln ((gR o7 3).set 1 (setAt (gA (gR o7 3) 1) 1 [aq]))))<|aP (dw 1 (((gR o7 3).set 1 (setAt (gA (gR o7 3) 1) 1 [aq])).length))<|ae [cG (gA ((gR o7 3).set 1 (setAt (gA (gR o7 3) 1) 1 [aq])) 1),cu]else bif gI (gC o7 1) 0==11 then bif aV (gI (gC o7 1) 2) 0 then ae [J pw,aq]else bif ck (ln r2) (gI (gC o7 1) 2)then ae [J pw,aq]else br (bx (bx (ln r2- 1)- gI (gC o7 1) 2)) r2<|ae [J (sT (js (aD r2 (bx (bx (ln r2- 1)- gI (gC o7 1) 2)))) [(1,aq)]),cu]else bif gI (gC o7 1) 0==12 then bO (G Bf [J [bJ (gR (gC o7 0) 0),iI (gI (gC o7 0) 1)],iI (gI (gC o7 1) 3),iI 0]) λ_ rG=>bif gB rG 0 then br (gI (gC o7 1) 3) (gR (gC o7 0) 0)<|bif !(gB (aD (gR (gC o7 0) 0) (gI (gC o7 1) 3)) 3)then br (gI (gC o7 1) 3) (gR (gC o7 0) 0)<|ae [J [cu,aq,aa (([[iI (gI (gC o7 1) 3)]]:aZ)),iI 0,iI 0],ak (gI (aD (gR (gC o7 0) 0) (gI (gC o7 1) 3)) 0==1)]else ae [J [cu,aq,aa (([[iI (gI (gC o7 1) 3)]]:aZ)),iI 0,iI 0],aq]else ae [J [cu,aq,aa (([[iI (gI (gC o7 1) 3)]]:aZ)),iI 0,iI 0],aq]else bif gI (gC o7 1) 0==13 then aP (aV 0 (ln (gR o7 3)))<|aP (dw 0 ((gR o7 3).length))<|bO (G TE [J [bJ (gR (gC o7 0) 0),iI (gI (gC o7 0) 1)],cG (gA (gR o7 3) 0)]) λ_ iP=>ae [J (sT (js (gC iP 0)) [(2,aa (gR iP 2))]),ak (gB iP 1)]else bif ck 0 (gI (gC o7 1) 2)then ae [J RF,ak (aV (gI (gC o7 1) 2) (gI (gC o7 0) 1))]else ae [J RF,aq]else ae [J (sT (js (gC o7 3)) [(2,aa (gR o7 4))]),ak (gB o7 0)]else ae [J (sT (js (gC o2 2)) [(2,aa (gR o2 4))]),ak (gB o2 0)]:aJ):=by kernel_rfl
def adh:ca CX EE G N MI [J l0,J l1]=(bO (G Ig [bR l1,iI 0,J [iI 256]]) λ_ o1=>bif !(gB o1 0)then ae [J pw,aq]else bO (G HC [J [bJ (gR l0 0),iI (gI l0 1)],bR l1,dL ([])]) λ_ o2=>ae [cG (gC o2 0),ak (gB o2 1)]:aJ):=by kernel_rfl
def abH:LY G N (n+1) [aa r0,iI i1,iI i2,iI i3]=(bif aV i3 i2 then br i3 r0<|bif i1==gI (aD r0 i3) 0 then ae [iI i3]else LY G N n [aa r0,iI i1,iI i2,cz i3]else aN []:aJ):=by kernel_rfl
def ack:ca CX EE G N acn [aa r0,iI i1]=(bO (LY G N N [aa r0,iI i1,iI (ln r0),iI 0]) λq1 o1=>bif bQ q1 then ae [iI (gI o1 0)]else ae [iI (-1)]:aJ):=by kernel_rfl
def abQ:ca CX EE G N rV [aa r0,iI i1]=(bO (G acn [aa r0,iI i1]) λ_ o1=>ae [ak (ck 0 (gI o1 0))]:aJ):=by kernel_rfl
def axq:ca CX EE G N Vw [J l0,J l1,J l2]=(bO (G Ih [bJ (gR l1 0),aa (gR l2 0),bR l0]) λ_ o1=>ae [ak (!(gB o1 0)),J [bJ (gR l1 0)],J [aa (gR l2 0)]]:aJ):=by kernel_rfl
def aa5:LN G N (n+1) [aT r0,iI i1,iI i2,J l3,J l4]=(bif aV i2 i1 then br i2 r0<|bO (G Vw [bR (aD r0 i2),J [bJ (gR l3 0)],J [aa (gR l4 0)]]) λ_ o1=>bif gB o1 0 then ae [iI i2,J [bJ (gR (gC o1 1) 0)],J [aa (gR (gC o1 2) 0)]]else LN G N n [aT r0,iI i1,cz i2,J [bJ (gR (gC o1 1) 0)],J [aa (gR (gC o1 2) 0)]]else aN [J [bJ (gR l3 0)],J [aa (gR l4 0)]]:aJ):=by kernel_rfl
def abj:ca CX EE G N SW [aT r0,J l1,J l2]=(bO (LN G N N [aT r0,iI (ln r0),iI 0,J [bJ (gR l1 0)],J [aa (gR l2 0)]]) λq2 o2=>bif bQ q2 then ae [iI (gI o2 0),J [bJ (gR (gC o2 1) 0)],J [aa (gR (gC o2 2) 0)]]else ae [iI (-1),J [bJ (gR (gC o2 0) 0)],J [aa (gR (gC o2 1) 0)]]:aJ):=by kernel_rfl
def aoY:ca CX EE G N SQ [aT r0,J l1,J l2]=(bO (G SW [aT r0,J [bJ (gR l1 0)],J [aa (gR l2 0)]]) λ_ o1=>ae [ak (ck 0 (gI o1 0)),J [bJ (gR (gC o1 1) 0)],J [aa (gR (gC o1 2) 0)]]:aJ):=by kernel_rfl
def au3:U7 G N [bE i0]=(bif i0==1 then c8 else bif i0==14 then c8 else bif i0==6 then c8 else ae [ak (i0==7)]:aJ):=by kernel_rfl
def awh:Vt G N [ak b0,J l1,J l2,J l3]=(bO (U7 G N [bE (gI l3 0)]) λ_ o1=>bif gB o1 0 then ae [cu,J [bJ (gR l1 0)],J [aa (gR l2 0)],bR l3]else bif gI l3 0==2 then bO (G rV [aa (gR l2 0),iI (gI l3 3)]) λ_ o2=>bif gB o2 0 then br (gI l3 3) (gR l1 0)<|ae [ak (!(gB (aD (gR l1 0) (gI l3 3)) 3)),J [bJ (gR l1 0)],J [aa (gR l2 0)],bR l3]else ae [aq,J [bJ (gR l1 0)],J [aa (gR l2 0)],bR l3]else bif gI l3 0==4 then ae [ak (gI l3 1==18),J [bJ (gR l1 0)],J [aa (gR l2 0)],bR l3]else bif gI l3 0==5 then bif ck 7 (gI l3 1)then ae [ak (ck (gI l3 1) 15),J [bJ (gR l1 0)],J [aa (gR l2 0)],bR l3]else ae [aq,J [bJ (gR l1 0)],J [aa (gR l2 0)],bR l3]else ae [ak b0,J [bJ (gR l1 0)],J [aa (gR l2 0)],bR l3]:aJ):=by kernel_rfl
def aeh:ca CX EE G N Ih [bJ r0,aa r1,J l2]=(bO (Vt G N [aq,J [bJ r0],J [aa r1],bR l2]) λ_ o3=>bif gB o3 0 then bO (G SQ [aT (gR (gC o3 3) 8),J [bJ (gR (gC o3 1) 0)],J [aa (gR (gC o3 2) 0)]]) λ_ o4=>ae [ak (!(gB o4 0))]else bZ:aJ):=by kernel_rfl
def aoR:LM G N (n+1) [aT r0,aT r1,iI i2,iI i3]=(bif aV i3 i2 then br i3 r1<|br i3 r0<|bO (G aw6 [bR (aD r1 i3),bR (aD r0 i3)]) λ_ o1=>bif !(gB o1 0)then bZ else LM G N n [aT r0,aT r1,iI i2,cz i3]else aN []:aJ):=by kernel_rfl
def ao6:ca CX EE G N LQ [aT r0,aT r1]=(bif ln r0 != ln r1 then bZ else bO (LM G N N [aT r1,aT r0,iI (ln r0),iI 0]) λq2 o2=>bif bQ q2 then ae [ak (gB o2 0)]else c8:aJ):=by kernel_rfl
def aqG:LZ G N (n+1) [aa r0,aa r1,iI i2,iI i3]=(bif aV i3 i2 then br i3 r0<|br i3 r1<|bif gI (aD r0 i3) 0 != gI (aD r1 i3) 0 then bZ else LZ G N n [aa r0,aa r1,iI i2,cz i3]else aN []:aJ):=by kernel_rfl
def as0:ca CX EE G N T9 [aa r0,aa r1]=(bif ln r0 != ln r1 then bZ else bO (LZ G N N [aa r0,aa r1,iI (ln r0),iI 0]) λq1 o1=>bif bQ q1 then ae [ak (gB o1 0)]else c8:aJ):=by kernel_rfl
def aoJ:LI G N (n+1) [bH r0,bH r1,iI i2,iI i3]=(bif aV i3 i2 then br i3 r1<|br i3 r0<|bO (G av2 [ev (aD r1 i3),ev (aD r0 i3)]) λ_ o1=>bif !(gB o1 0)then bZ else LI G N n [bH r0,bH r1,iI i2,cz i3]else aN []:aJ):=by kernel_rfl
def ao1:ca CX EE G N LO [bH r0,bH r1]=(bif ln r0 != ln r1 then bZ else bO (LI G N N [bH r1,bH r0,iI (ln r0),iI 0]) λq2 o2=>bif bQ q2 then ae [ak (gB o2 0)]else c8:aJ):=by kernel_rfl
def aoQ:LL G N (n+1) [bD r0,bD r1,iI i2,iI i3]=(bif aV i3 i2 then br i3 r1<|br i3 r0<|bO (G HQ [aw (aD r1 i3),aw (aD r0 i3)]) λ_ o1=>bif !(gB o1 0)then bZ else LL G N n [bD r0,bD r1,iI i2,cz i3]else aN []:aJ):=by kernel_rfl
def ao5:ca CX EE G N SU [bD r0,bD r1]=(bif ln r0 != ln r1 then bZ else bO (LL G N N [bD r1,bD r0,iI (ln r0),iI 0]) λq2 o2=>bif bQ q2 then ae [ak (gB o2 0)]else c8:aJ):=by kernel_rfl
def aoC:LG G N (n+1) [c5 r0,c5 r1,iI i2,iI i3]=(bif aV i3 i2 then br i3 r1<|br i3 r0<|bO (G auP [Vh (aD r1 i3),Vh (aD r0 i3)]) λ_ o1=>bif !(gB o1 0)then bZ else LG G N n [c5 r0,c5 r1,iI i2,cz i3]else aN []:aJ):=by kernel_rfl
def aoW:ca CX EE G N SN [c5 r0,c5 r1]=(bif ln r0 != ln r1 then bZ else bO (LG G N N [c5 r1,c5 r0,iI (ln r0),iI 0]) λq2 o2=>bif bQ q2 then ae [ak (gB o2 0)]else c8:aJ):=by kernel_rfl
def aor:Lz G N (n+1) [cZ r0,cZ r1,iI i2,iI i3]=(bif aV i3 i2 then br i3 r1<|br i3 r0<|bO (G auO [nS (aD r1 i3),nS (aD r0 i3)]) λ_ o1=>bif !(gB o1 0)then bZ else Lz G N n [cZ r0,cZ r1,iI i2,cz i3]else aN []:aJ):=by kernel_rfl
def aoD:ca CX EE G N SE [cZ r0,cZ r1]=(bif ln r0 != ln r1 then bZ else bO (Lz G N N [cZ r1,cZ r0,iI (ln r0),iI 0]) λq2 o2=>bif bQ q2 then ae [ak (gB o2 0)]else c8:aJ):=by kernel_rfl
def aoK:LJ G N (n+1) [cQ r0,cQ r1,iI i2,iI i3]=(bif aV i3 i2 then br i3 r1<|br i3 r0<|bO (G auN [ma (aD r1 i3),ma (aD r0 i3)]) λ_ o1=>bif !(gB o1 0)then bZ else LJ G N n [cQ r0,cQ r1,iI i2,cz i3]else aN []:aJ):=by kernel_rfl
def ao2:ca CX EE G N SS [cQ r0,cQ r1]=(bif ln r0 != ln r1 then bZ else bO (LJ G N N [cQ r1,cQ r0,iI (ln r0),iI 0]) λq2 o2=>bif bQ q2 then ae [ak (gB o2 0)]else c8:aJ):=by kernel_rfl
def asZ:Ur G N [J l0,J l1]=(bif gI l0 0 != gI l1 0 then ae [cu,aw l0,aw l1]else bif gI l0 1 != gI l1 1 then ae [cu,aw l0,aw l1]else bif gI l0 2 != gI l1 2 then ae [cu,aw l0,aw l1]else bif gI l0 3 != gI l1 3 then ae [cu,aw l0,aw l1]else bif gI l0 4 != gI l1 4 then ae [cu,aw l0,aw l1]else bif gI l0 5 != gI l1 5 then ae [cu,aw l0,aw l1]else ae [ak (gI l0 11 != gI l1 11),aw l0,aw l1]:aJ):=by kernel_rfl
def asc:T7 G N [J l0,J l1]=(bif !((gB l0 6)==(gB l1 6))then ae [cu,aw l0,aw l1]else bif !((gB l0 7)==(gB l1 7))then ae [cu,aw l0,aw l1]else bif !((gB l0 8)==(gB l1 8))then ae [cu,aw l0,aw l1]else bif !((gB l0 9)==(gB l1 9))then ae [cu,aw l0,aw l1]else ae [ak (!((gB l0 10)==(gB l1 10))),aw l0,aw l1]:aJ):=by kernel_rfl
def asb:T6 G N [J l0,J l1]=(bO (G LQ [aT (gR l0 12),aT (gR l1 12)]) λ_ o3=>bif !(gB o3 0)then ae [cu,aw l0,aw l1]else bO (G LQ [aT (gR l0 13),aT (gR l1 13)]) λ_ o4=>bif !(gB o4 0)then ae [cu,aw l0,aw l1]else bO (G T9 [aa (gR l0 16),aa (gR l1 16)]) λ_ o5=>ae [ak (!(gB o5 0)),aw l0,aw l1]:aJ):=by kernel_rfl
end
noncomputable section
variable {G:Nat->bp->Option UO} {N n:Nat} {i0 i1 i2:Int} {l0 l1 l3 l4 l5:bp} {r5 r6 r7 r8 r9 ey fx fw fv fa AH AG AF AE AD AB Dh Dg Df:aZ}
def at0:UL G N [J l0,J l1]=(bO (Ur G N [aw l0,aw l1]) λ_ o1=>bif gB o1 0 then aN [aq,aw (gC o1 1),aw (gC o1 2)]else bO (T7 G N [aw (gC o1 1),aw (gC o1 2)]) λ_ o2=>bif gB o2 0 then aN [aq,aw (gC o2 1),aw (gC o2 2)]else bO (T6 G N [aw (gC o2 1),aw (gC o2 2)]) λ_ o6=>bif gB o6 0 then aN [aq,aw (gC o6 1),aw (gC o6 2)]else bO (G LO [bH (gR (gC o6 1) 14),bH (gR (gC o6 2) 14)]) λ_ o7=>bif !(gB o7 0)then aN [aq,aw (gC o6 1),aw (gC o6 2)]else bO (G LO [bH (gR (gC o6 1) 15),bH (gR (gC o6 2) 15)]) λ_ o8=>bif !(gB o8 0)then aN [aq,aw (gC o6 1),aw (gC o6 2)]else bO (G SU [bD (gR (gC o6 1) 17),bD (gR (gC o6 2) 17)]) λ_ o9=>bif !(gB o9 0)then aN [aq,aw (gC o6 1),aw (gC o6 2)]else ae [aw (gC o6 1),aw (gC o6 2)]:aJ):=by kernel_rfl
def awr:ca CX EE G N HQ [J l0,J l1]=(bO (UL G N [aw l0,aw l1]) λmy cL=>bif bQ my then bO (G SN [c5 (gR (gC cL 0) 18),c5 (gR (gC cL 1) 18)]) λ_ cP=>bif gB cP 0 then bO (G SE [cZ (gR (gC cL 0) 19),cZ (gR (gC cL 1) 19)]) λ_ dc=>bif gB dc 0 then bO (G SS [cQ (gR (gC cL 0) 20),cQ (gR (gC cL 1) 20)]) λ_ eV=>ae [ak (gB eV 0)]else bZ else bZ else ae [ak (gB cL 0)]:aJ):=by kernel_rfl
def aqR:Tz G N [bE i0]=(bif i0==8 then c8 else ae [ak (i0==10)]:aJ):=by kernel_rfl
def ap0:Tc G N [bE i0]=(bif i0==12 then c8 else ae [ak (i0==13)]:aJ):=by kernel_rfl
def au2:U6 G N [iI i0,iI i1,iI i2,J l3,J l4,.ab 0 r5,aT r6,aT r7,bH r8,bH r9,aa ey,bD fx,c5 fw,cZ fv,cQ fa]=(bif gI l3 0==1 then ae [iI i0,iI i1,iI i2,aw l3,J (sT (fk l4) pW),.ab 0 (ay (au r5)),aT r6,aT r7,bH r8,bH r9,aa ey,bD fx,c5 fw,cZ fv,cQ fa]else bif gI l3 0==2 then ae [iI 1,iI 1,iI i2,aw l3,J (sT (fk l4) pW),.ab 0 (ay (au r5)),aT r6,aT r7,bH r8,bH r9,aa ey,bD fx,c5 fw,cZ fv,cQ fa]else bif gI l3 0==3 then ae [iI i0,iI i1,iI (ln (gR l3 17)),aw l3,J (sT (fk l4) pW),.ab 0 (ay (au r5)),aT r6,aT r7,bH r8,bH r9,aa ey,bD fx,c5 fw,cZ fv,cQ fa]else bif gI l3 0==4 then ae [iI 1,iI i1,iI 2,aw l3,J (sT (fk l4) pW),.ab 0 (ay (au r5)),aT r6,aT r7,bH r8,bH r9,aa ey,bD fx,c5 fw,cZ fv,cQ fa]else bif gI l3 0==5 then ae [iI 1,iI i1,iI 1,aw l3,J (sT (fk l4) pW),.ab 0 (ay (au r5)),aT r6,aT r7,bH r8,bH r9,aa ey,bD fx,c5 fw,cZ fv,cQ fa]else bif gI l3 0==6 then ae [iI 2,iI i1,iI 1,aw l3,J [bE (gI l4 0),iI (gI l4 1),iI (gI l3 2),iI (gI l4 3),iI (gI l4 4),iI (gI l4 5),ak (gB l4 6),ak (gB l3 7),ak (gB l4 8),ak (gB l4 9),ak (gB l4 10),bE (gI l4 11),.aA 3,.aA 4,.aA 5,.aA 6,.aA 7,.aA 8,.aA 9,.aA 10,.aA 11],.ab 0 (ay (au r5)),aT r6,aT r7,bH r8,bH r9,aa ey,bD fx,c5 fw,cZ fv,cQ fa]else bif gI l3 0==7 then ae [iI i0,iI i1,iI 1,aw l3,J (sT (fk l4) [(1,iI (gI l3 1)),(12,.aA 3),(13,.aA 4),(14,.aA 5),(15,.aA 6),(16,.aA 7),(17,.aA 8),(18,.aA 9),(19,.aA 10),(20,.aA 11)]),.ab 0 (ay (au r5)),aT r6,aT r7,bH r8,bH r9,aa ey,bD fx,c5 fw,cZ fv,cQ fa]else bO (Tz G N [bE (gI l3 0)]) λ_ o1=>bif gB o1 0 then ae [iI i0,iI i1,iI i2,aw l3,J (sT (fk l4) [(1,iI (gI l3 1)),(12,.aA 3),(13,.aA 4),(14,.aA 5),(15,.aA 6),(16,.aA 7),(17,.aA 8),(18,.aA 9),(19,.aA 10),(20,.aA 11)]),.ab 0 (ay (au r5)),aT r6,aT r7,bH r8,bH r9,aa ey,bD fx,c5 fw,cZ fv,cQ fa]else bif gI l3 0==9 then ae [iI i0,iI i1,iI 1,aw l3,J (sT (fk l4) pW),.ab 0 (ay (az.iK (az.iK (au r5) (.str ((⟨#[116,115]⟩:ByteArray))) (cu)) (.str ((⟨#[100,101,99,108,115]⟩:ByteArray))) (cu))),aT r6,aT r7,bH r8,bH r9,aa ey,bD fx,c5 fw,cZ fv,cQ fa]else bif gI l3 0==11 then ae [iI 1,iI i1,iI i2,aw l3,J (sT (fk l4) pW),.ab 0 (ay (au r5)),aT r6,aT r7,bH r8,bH r9,aa ey,bD fx,c5 fw,cZ fv,cQ fa]else bO (Tc G N [bE (gI l3 0)]) λ_ o2=>bif gB o2 0 then ae [iI i0,iI 1,iI i2,aw l3,J (sT (fk l4) pW),.ab 0 (ay (au r5)),aT r6,aT r7,bH r8,bH r9,aa ey,bD fx,c5 fw,cZ fv,cQ fa]else bif gI l3 0==14 then bif gB l3 6 then ae [iI i0,iI 1,iI i2,aw l3,J [bE (gI l4 0),iI (gI l4 1),iI (gI l4 2),iI (gI l4 3),iI (gI l3 4),iI (gI l3 5),ak (gB l3 6),ak (gB l4 7),ak (gB l4 8),ak (gB l4 9),ak (gB l4 10),bE (gI l4 11),.aA 3,.aA 4,.aA 5,.aA 6,.aA 7,.aA 8,.aA 9,.aA 10,.aA 11],.ab 0 (ay (au r5)),aT r6,aT r7,bH r8,bH r9,aa ey,bD fx,c5 fw,cZ fv,cQ fa]else ae [iI i0,iI 1,iI i2,aw l3,J [bE (gI l4 0),iI (gI l4 1),iI (gI l4 2),iI (gI l4 3),iI (gI l4 4),iI (gI l3 5),ak (gB l3 6),ak (gB l4 7),ak (gB l4 8),ak (gB l4 9),ak (gB l4 10),bE (gI l4 11),.aA 3,.aA 4,.aA 5,.aA 6,.aA 7,.aA 8,.aA 9,.aA 10,.aA 11],.ab 0 (ay (au r5)),aT r6,aT r7,bH r8,bH r9,aa ey,bD fx,c5 fw,cZ fv,cQ fa]else bif gI l3 0==15 then ae [iI 1,iI i1,iI i2,aw l3,J (sT (fk l4) [(8,ak (gB l3 8)),(12,.aA 3),(13,.aA 4),(14,.aA 5),(15,.aA 6),(16,.aA 7),(17,.aA 8),(18,.aA 9),(19,.aA 10),(20,.aA 11)]),.ab 0 (ay (au r5)),aT r6,aT r7,bH r8,bH r9,aa ey,bD fx,c5 fw,cZ fv,cQ fa]else bif gI l3 0==16 then ae [iI (ln (gR l3 12)),iI i1,iI 2,aw l3,J [bE (gI l4 0),iI (gI l4 1),iI (gI l4 2),iI (gI l3 3),iI (gI l4 4),iI (gI l3 5),ak (gB l4 6),ak (gB l4 7),ak (gB l4 8),ak (gB l4 9),ak (gB l4 10),bE (gI l3 11),.aA 3,.aA 4,.aA 5,.aA 6,.aA 7,.aA 8,.aA 9,.aA 10,.aA 11],.ab 0 (ay (az.iK (au r5) (.str ((⟨#[99,97,108,108]⟩:ByteArray))) (cu))),aT r6,aT r7,bH r8,bH r9,aa ey,bD fx,c5 fw,cZ fv,cQ fa]else bif gI l3 0==17 then ae [iI (ln (gR l3 12)),iI i1,iI 3,aw l3,J [bE (gI l4 0),iI (gI l4 1),iI (gI l4 2),iI (gI l4 3),iI (gI l3 4),iI (gI l3 5),ak (gB l4 6),ak (gB l4 7),ak (gB l4 8),ak (gB l4 9),ak (gB l4 10),bE (gI l3 11),.aA 3,.aA 4,.aA 5,.aA 6,.aA 7,.aA 8,.aA 9,.aA 10,.aA 11],.ab 0 (ay (au r5)),aT r6,aT r7,bH r8,bH r9,aa ey,bD fx,c5 fw,cZ fv,cQ fa]else bif gI l3 0==18 then ae [iI i0,iI i1,iI 2,aw l3,J (sT (fk l4) [(5,iI (gI l3 5)),(12,.aA 3),(13,.aA 4),(14,.aA 5),(15,.aA 6),(16,.aA 7),(17,.aA 8),(18,.aA 9),(19,.aA 10),(20,.aA 11)]),.ab 0 (ay (au r5)),aT r6,aT r7,bH r8,bH r9,aa ey,bD fx,c5 fw,cZ fv,cQ fa]else bif gI l3 0==19 then ae [iI i0,iI i1,iI 1,aw l3,J (sT (fk l4) [(9,ak (gB l3 9)),(12,.aA 3),(13,.aA 4),(14,.aA 5),(15,.aA 6),(16,.aA 7),(17,.aA 8),(18,.aA 9),(19,.aA 10),(20,.aA 11)]),.ab 0 (ay (az.iK (au r5) (.str ((⟨#[97,108,116,115]⟩:ByteArray))) (cu))),aT r6,aT r7,bH r8,bH r9,aa ey,bD fx,c5 fw,cZ fv,cQ fa]else bif gI l3 0==20 then ae [iI i0,iI i1,iI 1,aw l3,J (sT (fk l4) [(4,iI (gI l3 4)),(12,.aA 3),(13,.aA 4),(14,.aA 5),(15,.aA 6),(16,.aA 7),(17,.aA 8),(18,.aA 9),(19,.aA 10),(20,.aA 11)]),.ab 0 (ay (au r5)),aT r6,aT r7,bH r8,bH r9,aa ey,bD fx,c5 fw,cZ fv,cQ fa]else bif gI l3 0==21 then ae [iI i0,iI i1,iI i2,aw l3,J [bE (gI l4 0),iI (gI l4 1),iI (gI l4 2),iI (gI l3 3),iI (gI l4 4),iI (gI l3 5),ak (gB l4 6),ak (gB l4 7),ak (gB l4 8),ak (gB l4 9),ak (gB l3 10),bE (gI l4 11),.aA 3,.aA 4,.aA 5,.aA 6,.aA 7,.aA 8,.aA 9,.aA 10,.aA 11],.ab 0 (ay (au r5)),aT r6,aT r7,bH r8,bH r9,aa ey,bD fx,c5 fw,cZ fv,cQ fa]else bif gI l3 0==22 then ae [iI i0,iI i1,iI i2,aw l3,J (sT (fk l4) pW),.ab 0 (ay (az.iK (au r5) (.str ((⟨#[116,115]⟩:ByteArray))) (cu))),aT r6,aT r7,bH r8,bH r9,aa ey,bD fx,c5 fw,cZ fv,cQ fa]else aN [aq,aw l3,J (sT (fk l4) pW),.ab 0 (ay (au r5)),aT r6,aT r7,bH r8,bH r9,aa ey,bD fx,c5 fw,cZ fv,cQ fa]:aJ):=by kernel_rfl
def au1:U5 G N [iI i0,iI i1,iI i2,J l3,J l4,J l5,aT r6,aT r7,bH r8,bH r9,aa ey,bD fx,c5 fw,cZ fv,cQ fa,aT AH,aT AG,bH AF,bH AE,aa AD,bD AB,c5 Dh,cZ Dg,cQ Df]=(bO (G HQ [J (sT (dv l4) [(12,aT r6),(13,aT r7),(14,bH r8),(15,bH r9),(16,aa ey),(17,bD fx),(18,c5 fw),(19,cZ fv),(20,cQ fa)]),J (sT (dv l5) [(12,aT AH),(13,aT AG),(14,bH AF),(15,bH AE),(16,aa AD),(17,bD AB),(18,c5 Dh),(19,cZ Dg),(20,cQ Df)])]) λ_ o4=>bif !(gB o4 0)then aN [aq,aw l3,J (sT (fk l4) pW),J (sT (fk l5) FY),aT r6,aT r7,bH r8,bH r9,aa ey,bD fx,c5 fw,cZ fv,cQ fa,aT AH,aT AG,bH AF,bH AE,aa AD,bD AB,c5 Dh,cZ Dg,cQ Df]else bif ln (gR l3 12) != i0 then aN [aq,aw l3,J (sT (fk l4) pW),J (sT (fk l5) FY),aT r6,aT r7,bH r8,bH r9,aa ey,bD fx,c5 fw,cZ fv,cQ fa,aT AH,aT AG,bH AF,bH AE,aa AD,bD AB,c5 Dh,cZ Dg,cQ Df]else bif ln (gR l3 14) != i1 then aN [aq,aw l3,J (sT (fk l4) pW),J (sT (fk l5) FY),aT r6,aT r7,bH r8,bH r9,aa ey,bD fx,c5 fw,cZ fv,cQ fa,aT AH,aT AG,bH AF,bH AE,aa AD,bD AB,c5 Dh,cZ Dg,cQ Df]else bif ln (gR l3 17) != i2 then aN [aq,aw l3,J (sT (fk l4) pW),J (sT (fk l5) FY),aT r6,aT r7,bH r8,bH r9,aa ey,bD fx,c5 fw,cZ fv,cQ fa,aT AH,aT AG,bH AF,bH AE,aa AD,bD AB,c5 Dh,cZ Dg,cQ Df]else ae [aw l3,J (sT (fk l4) pW),J (sT (fk l5) FY),aT r6,aT r7,bH r8,bH r9,aa ey,bD fx,c5 fw,cZ fv,cQ fa,aT AH,aT AG,bH AF,bH AE,aa AD,bD AB,c5 Dh,cZ Dg,cQ Df]:aJ):=by kernel_rfl
end
noncomputable section
variable {G:Nat->bp->Option UO} {N n:Nat} {i0 i1 i2:Int} {l0 l1 l2 l3 l4:bp} {r0 r1 r2 r3 r4 r5 r6:aZ}
def ay3:ca CX EE G N NI [J l0]=(bO (U6 G N [iI 0,iI 0,iI 0,aw l0,J [bE (gI l0 0),iI 0,iI 0,iI 0,iI 0,iI 0,aq,aq,aq,aq,aq,bE 0,.aA 3,.aA 4,.aA 5,.aA 6,.aA 7,.aA 8,.aA 9,.aA 10,.aA 11],.ab 0 (ay (([]:List (AV×AV)))),aT cy,aT cy,bH cy,bH cy,aa cy,bD cy,c5 cy,cZ cy,cQ cy]) λq3 o3=>bif bQ q3 then bO (U5 G N [iI (gI o3 0),iI (gI o3 1),iI (gI o3 2),aw (gC o3 3),J (sT (fk l0) pW),J (sT (fk (gC o3 4)) FY),aT cy,aT cy,bH cy,bH cy,aa cy,bD cy,c5 cy,cZ cy,cQ cy,aT (gR o3 6),aT (gR o3 7),bH (gR o3 8),bH (gR o3 9),aa (gR o3 10),bD (gR o3 11),c5 (gR o3 12),cZ (gR o3 13),cQ (gR o3 14)]) λq5 o5=>bif bQ q5 then match az.dM (au (gR o3 5)) (.str ((⟨#[99,97,108,108]⟩:ByteArray)))with|some m6=>(bif m6.toB then match az.dM (au (gR o3 5)) (.str ((⟨#[116,115]⟩:ByteArray)))with|some m7=>(bif m7.toB then match az.dM (au (gR o3 5)) (.str ((⟨#[100,101,99,108,115]⟩:ByteArray)))with|some m8=>(bif m8.toB then match az.dM (au (gR o3 5)) (.str ((⟨#[97,108,116,115]⟩:ByteArray)))with|some m9=>(bif m9.toB then c8 else ae [ak (ln (gR (gC o5 0) 20)==0)])|none=>(ae [ak (ln (gR (gC o5 0) 20)==0)])else bif bx ((ln (gR (gC o5 0) 18))+(ln (gR (gC o5 0) 19)))==0 then match az.dM (au (gR o3 5)) (.str ((⟨#[97,108,116,115]⟩:ByteArray)))with|some m10=>(bif m10.toB then c8 else ae [ak (ln (gR (gC o5 0) 20)==0)])|none=>(ae [ak (ln (gR (gC o5 0) 20)==0)])else bZ)|none=>(bif bx ((ln (gR (gC o5 0) 18))+(ln (gR (gC o5 0) 19)))==0 then match az.dM (au (gR o3 5)) (.str ((⟨#[97,108,116,115]⟩:ByteArray)))with|some m11=>(bif m11.toB then c8 else ae [ak (ln (gR (gC o5 0) 20)==0)])|none=>(ae [ak (ln (gR (gC o5 0) 20)==0)])else bZ)else bif ln (gR (gC o5 0) 16)==0 then match az.dM (au (gR o3 5)) (.str ((⟨#[100,101,99,108,115]⟩:ByteArray)))with|some m12=>(bif m12.toB then match az.dM (au (gR o3 5)) (.str ((⟨#[97,108,116,115]⟩:ByteArray)))with|some Dn=>(bif Dn.toB then c8 else ae [ak (ln (gR (gC o5 0) 20)==0)])|none=>(ae [ak (ln (gR (gC o5 0) 20)==0)])else bif bx ((ln (gR (gC o5 0) 18))+(ln (gR (gC o5 0) 19)))==0 then match az.dM (au (gR o3 5)) (.str ((⟨#[97,108,116,115]⟩:ByteArray)))with|some m14=>(bif m14.toB then c8 else ae [ak (ln (gR (gC o5 0) 20)==0)])|none=>(ae [ak (ln (gR (gC o5 0) 20)==0)])else bZ)|none=>(bif bx ((ln (gR (gC o5 0) 18))+(ln (gR (gC o5 0) 19)))==0 then match az.dM (au (gR o3 5)) (.str ((⟨#[97,108,116,115]⟩:ByteArray)))with|some m15=>(bif m15.toB then c8 else ae [ak (ln (gR (gC o5 0) 20)==0)])|none=>(ae [ak (ln (gR (gC o5 0) 20)==0)])else bZ)else bZ)|none=>(bif ln (gR (gC o5 0) 16)==0 then match az.dM (au (gR o3 5)) (.str ((⟨#[100,101,99,108,115]⟩:ByteArray)))with|some m16=>(bif m16.toB then match az.dM (au (gR o3 5)) (.str ((⟨#[97,108,116,115]⟩:ByteArray)))with|some m17=>(bif m17.toB then c8 else ae [ak (ln (gR (gC o5 0) 20)==0)])|none=>(ae [ak (ln (gR (gC o5 0) 20)==0)])else bif bx ((ln (gR (gC o5 0) 18))+(ln (gR (gC o5 0) 19)))==0 then match az.dM (au (gR o3 5)) (.str ((⟨#[97,108,116,115]⟩:ByteArray)))with|some m18=>(bif m18.toB then c8 else ae [ak (ln (gR (gC o5 0) 20)==0)])|none=>(ae [ak (ln (gR (gC o5 0) 20)==0)])else bZ)|none=>(bif bx ((ln (gR (gC o5 0) 18))+(ln (gR (gC o5 0) 19)))==0 then match az.dM (au (gR o3 5)) (.str ((⟨#[97,108,116,115]⟩:ByteArray)))with|some m19=>(bif m19.toB then c8 else ae [ak (ln (gR (gC o5 0) 20)==0)])|none=>(ae [ak (ln (gR (gC o5 0) 20)==0)])else bZ)else bZ)else bif bx ((ln (gR (gC o5 0) 13))+(ln (gR (gC o5 0) 15)))==0 then match az.dM (au (gR o3 5)) (.str ((⟨#[116,115]⟩:ByteArray)))with|some m20=>(bif m20.toB then match az.dM (au (gR o3 5)) (.str ((⟨#[100,101,99,108,115]⟩:ByteArray)))with|some m21=>(bif m21.toB then match az.dM (au (gR o3 5)) (.str ((⟨#[97,108,116,115]⟩:ByteArray)))with|some KI=>(bif KI.toB then c8 else ae [ak (ln (gR (gC o5 0) 20)==0)])|none=>(ae [ak (ln (gR (gC o5 0) 20)==0)])else bif bx ((ln (gR (gC o5 0) 18))+(ln (gR (gC o5 0) 19)))==0 then match az.dM (au (gR o3 5)) (.str ((⟨#[97,108,116,115]⟩:ByteArray)))with|some KH=>(bif KH.toB then c8 else ae [ak (ln (gR (gC o5 0) 20)==0)])|none=>(ae [ak (ln (gR (gC o5 0) 20)==0)])else bZ)|none=>(bif bx ((ln (gR (gC o5 0) 18))+(ln (gR (gC o5 0) 19)))==0 then match az.dM (au (gR o3 5)) (.str ((⟨#[97,108,116,115]⟩:ByteArray)))with|some m24=>(bif m24.toB then c8 else ae [ak (ln (gR (gC o5 0) 20)==0)])|none=>(ae [ak (ln (gR (gC o5 0) 20)==0)])else bZ)else bif ln (gR (gC o5 0) 16)==0 then match az.dM (au (gR o3 5)) (.str ((⟨#[100,101,99,108,115]⟩:ByteArray)))with|some m25=>(bif m25.toB then match az.dM (au (gR o3 5)) (.str ((⟨#[97,108,116,115]⟩:ByteArray)))with|some m26=>(bif m26.toB then c8 else ae [ak (ln (gR (gC o5 0) 20)==0)])|none=>(ae [ak (ln (gR (gC o5 0) 20)==0)])else bif bx ((ln (gR (gC o5 0) 18))+(ln (gR (gC o5 0) 19)))==0 then match az.dM (au (gR o3 5)) (.str ((⟨#[97,108,116,115]⟩:ByteArray)))with|some m27=>(bif m27.toB then c8 else ae [ak (ln (gR (gC o5 0) 20)==0)])|none=>(ae [ak (ln (gR (gC o5 0) 20)==0)])else bZ)|none=>(bif bx ((ln (gR (gC o5 0) 18))+(ln (gR (gC o5 0) 19)))==0 then match az.dM (au (gR o3 5)) (.str ((⟨#[97,108,116,115]⟩:ByteArray)))with|some m28=>(bif m28.toB then c8 else ae [ak (ln (gR (gC o5 0) 20)==0)])|none=>(ae [ak (ln (gR (gC o5 0) 20)==0)])else bZ)else bZ)|none=>(bif ln (gR (gC o5 0) 16)==0 then match az.dM (au (gR o3 5)) (.str ((⟨#[100,101,99,108,115]⟩:ByteArray)))with|some m29=>(bif m29.toB then match az.dM (au (gR o3 5)) (.str ((⟨#[97,108,116,115]⟩:ByteArray)))with|some m30=>(bif m30.toB then c8 else ae [ak (ln (gR (gC o5 0) 20)==0)])|none=>(ae [ak (ln (gR (gC o5 0) 20)==0)])else bif bx ((ln (gR (gC o5 0) 18))+(ln (gR (gC o5 0) 19)))==0 then match az.dM (au (gR o3 5)) (.str ((⟨#[97,108,116,115]⟩:ByteArray)))with|some m31=>(bif m31.toB then c8 else ae [ak (ln (gR (gC o5 0) 20)==0)])|none=>(ae [ak (ln (gR (gC o5 0) 20)==0)])else bZ)|none=>(bif bx ((ln (gR (gC o5 0) 18))+(ln (gR (gC o5 0) 19)))==0 then match az.dM (au (gR o3 5)) (.str ((⟨#[97,108,116,115]⟩:ByteArray)))with|some m32=>(bif m32.toB then c8 else ae [ak (ln (gR (gC o5 0) 20)==0)])|none=>(ae [ak (ln (gR (gC o5 0) 20)==0)])else bZ)else bZ)else bZ)|none=>(bif bx ((ln (gR (gC o5 0) 13))+(ln (gR (gC o5 0) 15)))==0 then match az.dM (au (gR o3 5)) (.str ((⟨#[116,115]⟩:ByteArray)))with|some m33=>(bif m33.toB then match az.dM (au (gR o3 5)) (.str ((⟨#[100,101,99,108,115]⟩:ByteArray)))with|some m34=>(bif m34.toB then match az.dM (au (gR o3 5)) (.str ((⟨#[97,108,116,115]⟩:ByteArray)))with|some m35=>(bif m35.toB then c8 else ae [ak (ln (gR (gC o5 0) 20)==0)])|none=>(ae [ak (ln (gR (gC o5 0) 20)==0)])else bif bx ((ln (gR (gC o5 0) 18))+(ln (gR (gC o5 0) 19)))==0 then match az.dM (au (gR o3 5)) (.str ((⟨#[97,108,116,115]⟩:ByteArray)))with|some m36=>(bif m36.toB then c8 else ae [ak (ln (gR (gC o5 0) 20)==0)])|none=>(ae [ak (ln (gR (gC o5 0) 20)==0)])else bZ)|none=>(bif bx ((ln (gR (gC o5 0) 18))+(ln (gR (gC o5 0) 19)))==0 then match az.dM (au (gR o3 5)) (.str ((⟨#[97,108,116,115]⟩:ByteArray)))with|some m37=>(bif m37.toB then c8 else ae [ak (ln (gR (gC o5 0) 20)==0)])|none=>(ae [ak (ln (gR (gC o5 0) 20)==0)])else bZ)else bif ln (gR (gC o5 0) 16)==0 then match az.dM (au (gR o3 5)) (.str ((⟨#[100,101,99,108,115]⟩:ByteArray)))with|some m38=>(bif m38.toB then match az.dM (au (gR o3 5)) (.str ((⟨#[97,108,116,115]⟩:ByteArray)))with|some m39=>(bif m39.toB then c8 else ae [ak (ln (gR (gC o5 0) 20)==0)])|none=>(ae [ak (ln (gR (gC o5 0) 20)==0)])else bif bx ((ln (gR (gC o5 0) 18))+(ln (gR (gC o5 0) 19)))==0 then match az.dM (au (gR o3 5)) (.str ((⟨#[97,108,116,115]⟩:ByteArray)))with|some m40=>(bif m40.toB then c8 else ae [ak (ln (gR (gC o5 0) 20)==0)])|none=>(ae [ak (ln (gR (gC o5 0) 20)==0)])else bZ)|none=>(bif bx ((ln (gR (gC o5 0) 18))+(ln (gR (gC o5 0) 19)))==0 then match az.dM (au (gR o3 5)) (.str ((⟨#[97,108,116,115]⟩:ByteArray)))with|some m41=>(bif m41.toB then c8 else ae [ak (ln (gR (gC o5 0) 20)==0)])|none=>(ae [ak (ln (gR (gC o5 0) 20)==0)])else bZ)else bZ)|none=>(bif ln (gR (gC o5 0) 16)==0 then match az.dM (au (gR o3 5)) (.str ((⟨#[100,101,99,108,115]⟩:ByteArray)))with|some m42=>(bif m42.toB then match az.dM (au (gR o3 5)) (.str ((⟨#[97,108,116,115]⟩:ByteArray)))with|some m43=>(bif m43.toB then c8 else ae [ak (ln (gR (gC o5 0) 20)==0)])|none=>(ae [ak (ln (gR (gC o5 0) 20)==0)])else bif bx ((ln (gR (gC o5 0) 18))+(ln (gR (gC o5 0) 19)))==0 then match az.dM (au (gR o3 5)) (.str ((⟨#[97,108,116,115]⟩:ByteArray)))with|some m44=>(bif m44.toB then c8 else ae [ak (ln (gR (gC o5 0) 20)==0)])|none=>(ae [ak (ln (gR (gC o5 0) 20)==0)])else bZ)|none=>(bif bx ((ln (gR (gC o5 0) 18))+(ln (gR (gC o5 0) 19)))==0 then match az.dM (au (gR o3 5)) (.str ((⟨#[97,108,116,115]⟩:ByteArray)))with|some m45=>(bif m45.toB then c8 else ae [ak (ln (gR (gC o5 0) 20)==0)])|none=>(ae [ak (ln (gR (gC o5 0) 20)==0)])else bZ)else bZ)else bZ)else ae [ak (gB o5 0)]else ae [ak (gB o3 0)]:aJ):=by kernel_rfl
def au5:U9 G N [bE i0]=(bif i0==16 then c8 else bif i0==17 then c8 else bif i0==18 then c8 else bif i0==19 then c8 else bif i0==15 then c8 else bif i0==11 then c8 else bif i0==12 then c8 else bif i0==22 then c8 else ae [ak (i0==21)]:aJ):=by kernel_rfl
def ayh:ca CX EE G N No [J l0]=(bO (U9 G N [bE (gI l0 0)]) λ_ o1=>bif gB o1 0 then c8 else bif gI l0 0==9 then ae [ak (aV 0 (ln (gR l0 16)))]else bZ:aJ):=by kernel_rfl
def aqM:Tu G N [J l0,ah r1,.ab 0 r2,J l3,J l4]=(bif aV 0 (ln (gR l3 5))then bO (G No [aw l4]) λ_ o1=>bif gB o1 0 then aN [aq,J (sT (aF l0) aM),ah r1,.ab 0 (ay (au r2)),J (sT (ba l3) bG),aw l4]else ae [J (sT (aF l0) aM),ah r1,.ab 0 (ay (au r2)),J (sT (ba l3) bG),aw l4]else ae [J (sT (aF l0) aM),ah r1,.ab 0 (ay (au r2)),J (sT (ba l3) bG),aw l4]:aJ):=by kernel_rfl
def apX:Tb G N [bE i0,J l1,ah r2,.ab 0 r3]=(bif i0==18 then ae [cu,J (sT (aF l1) aM),ah r2,.ab 0 (ay (au r3))]else bif i0==19 then ae [cu,J (sT (aF l1) aM),ah r2,.ab 0 (ay (au r3))]else ae [ak (i0==21),J (sT (aF l1) aM),ah r2,.ab 0 (ay (au r3))]:aJ):=by kernel_rfl
def aqi:Tk G N [J l0,ah r1,.ab 0 r2,J l3,J l4]=(bO (Tb G N [bE (gI l4 0),J (sT (aF l0) aM),ah r1,.ab 0 (ay (au r2))]) λ_ o3=>bif gB o3 0 then bif !(gB l3 7)then aN [ak (!(gB l3 8)),J (sT (aF (gC o3 1)) aM),ah (gR o3 2),.ab 0 (ay (au (gR o3 3))),J (sT (ba l3) bG),aw l4]else aN [aq,J (sT (aF (gC o3 1)) aM),ah (gR o3 2),.ab 0 (ay (au (gR o3 3))),J (sT (ba l3) bG),aw l4]else bif gI l4 0==11 then aN [cu,J (sT (aF (gC o3 1)) aM),ah (gR o3 2),.ab 0 (ay (au (gR o3 3))),J (sT (ba l3) bG),aw l4]else bif gI l4 0==12 then aN [cu,J (sT (aF (gC o3 1)) aM),ah (gR o3 2),.ab 0 (ay (au (gR o3 3))),J (sT (ba l3) bG),aw l4]else ae [J (sT (aF (gC o3 1)) aM),ah (gR o3 2),.ab 0 (ay (au (gR o3 3))),J (sT (ba l3) bG),aw l4]:aJ):=by kernel_rfl
def asi:ca CX EE G N TU [J l0,J l1,J l2,ah r3,.ab 0 r4]=(bO (Tu G N [J (sT (aF l2) aM),ah r3,.ab 0 (ay (au r4)),J (sT (ba l0) bG),aw l1]) λq2 o2=>bif bQ q2 then bO (Tk G N [J (sT (aF (gC o2 0)) aM),ah (gR o2 1),.ab 0 (ay (au (gR o2 2))),J (sT (ba (gC o2 3)) bG),aw (gC o2 4)]) λq4 o4=>bif bQ q4 then bif !(gB (gC o4 3) 8)then ae [cu,J (sT (aF (gC o4 0)) aM),ah (gR o4 1),.ab 0 (ay (au (gR o4 2)))]else bO (G No [aw (gC o4 4)]) λ_ o5=>ae [ak (!(gB o5 0)),J (sT (aF (gC o4 0)) aM),ah (gR o4 1),.ab 0 (ay (au (gR o4 2)))]else ae [ak (gB o4 0),J (sT (aF (gC o4 1)) aM),ah (gR o4 2),.ab 0 (ay (au (gR o4 3)))]else ae [ak (gB o2 0),J (sT (aF (gC o2 1)) aM),ah (gR o2 2),.ab 0 (ay (au (gR o2 3)))]:aJ):=by kernel_rfl
def ava:ca CX EE G N Bl [J l0,iI i1,J l2,ah r3,.ab 0 r4]=(br i1 r3<|aP (dw (i1.toNat) (r3.length))<|bif ck 0 (gI (aD r3 i1) 0)then bO (G rV [aa (gR l0 5),iI (gI (aD r3 i1) 0)]) λ_ o1=>ae [ak (gB o1 0),J (sT (aF l2) aM),ah r3,.ab 0 (ay (au r4))]else bif aV (gI (aD r3 i1) 1) 0 then ae [cu,J (sT (aF l2) aM),ah r3,.ab 0 (ay (au r4))]else bif gI (aD r3 i1) 1==gI l0 1 then bO (G rV [aa (gR l0 4),iI (gI (aD r3 i1) 2)]) λ_ o2=>ae [ak (gB o2 0),J (sT (aF l2) aM),ah r3,.ab 0 (ay (au r4))]else ae [aq,J (sT (aF l2) aM),ah r3,.ab 0 (ay (au r4))]:aJ):=by kernel_rfl
def asg:ca CX EE G N TS [J l0,J l1,J l2,ah r3,.ab 0 r4]=(bO (G Ea [J (sT (ba l1) bG),bR l0,J (sT (aF l2) aM),ah r3,.ab 0 (ay (au r4))]) λ_ o1=>ae [ak (!(gB o1 0)),J (sT (ba l1) gf),J (sT (aF (gC o1 1)) fZ),ah (gR o1 2),.ab 0 (ay (au (gR o1 3)))]:aJ):=by kernel_rfl
def aaT:DQ G N (n+1) [aT r0,iI i1,iI i2,J l3,J l4,ah r5,.ab 0 r6]=(bif aV i2 i1 then br i2 r0<|bO (G TS [bR (aD r0 i2),J (sT (ba l3) gf),J (sT (aF l4) fZ),ah r5,.ab 0 (ay (au r6))]) λ_ o1=>bif gB o1 0 then ae [iI i2,J (sT (ba (gC o1 1)) gf),J (sT (aF (gC o1 2)) fZ),ah (gR o1 3),.ab 0 (ay (au (gR o1 4)))]else DQ G N n [aT r0,iI i1,cz i2,J (sT (ba (gC o1 1)) gf),J (sT (aF (gC o1 2)) fZ),ah (gR o1 3),.ab 0 (ay (au (gR o1 4)))]else aN [J (sT (ba l3) gf),J (sT (aF l4) fZ),ah r5,.ab 0 (ay (au r6))]:aJ):=by kernel_rfl
def aoL:ca CX EE G N SH [aT r0,J l1,J l2,ah r3,.ab 0 r4]=(bO (DQ G N N [aT r0,iI (ln r0),iI 0,J (sT (ba l1) gf),J (sT (aF l2) fZ),ah r3,.ab 0 (ay (au r4))]) λq2 o2=>bif bQ q2 then ae [iI (gI o2 0),J (sT (ba (gC o2 1)) gf),J (sT (aF (gC o2 2)) fZ),ah (gR o2 3),.ab 0 (ay (au (gR o2 4)))]else ae [iI (-1),J (sT (ba (gC o2 0)) gf),J (sT (aF (gC o2 1)) fZ),ah (gR o2 2),.ab 0 (ay (au (gR o2 3)))]:aJ):=by kernel_rfl
def aou:ca CX EE G N SD [aT r0,J l1,J l2,ah r3,.ab 0 r4]=(bO (G SH [aT r0,J (sT (ba l1) gf),J (sT (aF l2) fZ),ah r3,.ab 0 (ay (au r4))]) λ_ o1=>ae [ak (ck 0 (gI o1 0)),J (sT (ba (gC o1 1)) gf),J (sT (aF (gC o1 2)) fZ),ah (gR o1 3),.ab 0 (ay (au (gR o1 4)))]:aJ):=by kernel_rfl
def ar9:T4 G N [J l0,ah r1,.ab 0 r2,J l3,J l4]=(bif gI l4 0==2 then bO (G Bl [J (sT (ba l3) bG),iI (gI l4 3),J (sT (aF l0) aM),ah r1,.ab 0 (ay (au r2))]) λ_ o1=>bif !(gB o1 0)then aN [aq,J (sT (aF (gC o1 1)) aM),ah (gR o1 2),.ab 0 (ay (au (gR o1 3))),J (sT (ba l3) bG),bR l4]else ae [J (sT (aF (gC o1 1)) aM),ah (gR o1 2),.ab 0 (ay (au (gR o1 3))),J (sT (ba l3) bG),bR l4]else bif gI l4 0==3 then bO (G Bl [J (sT (ba l3) bG),iI (gI l4 3),J (sT (aF l0) aM),ah r1,.ab 0 (ay (au r2))]) λ_ o2=>bif !(gB o2 0)then aN [aq,J (sT (aF (gC o2 1)) aM),ah (gR o2 2),.ab 0 (ay (au (gR o2 3))),J (sT (ba l3) bG),bR l4]else ae [J (sT (aF (gC o2 1)) aM),ah (gR o2 2),.ab 0 (ay (au (gR o2 3))),J (sT (ba l3) bG),bR l4]else bif gI l4 0==12 then br (gI l4 3) r1<|aP (dw ((gI l4 3).toNat) (r1.length))<|bif !(((gI (aD r1 (gI l4 3)) 0)==(-1))&&(((gI (aD r1 (gI l4 3)) 1)==(-1))&&(((gI (aD r1 (gI l4 3)) 2)==(-1))&&true)))then aN [aq,J (sT (aF l0) aM),ah r1,.ab 0 (ay (au r2)),J (sT (ba l3) bG),bR l4]else ae [J (sT (aF l0) aM),ah r1,.ab 0 (ay (au r2)),J (sT (ba l3) bG),bR l4]else ae [J (sT (aF l0) aM),ah r1,.ab 0 (ay (au r2)),J (sT (ba l3) bG),bR l4]:aJ):=by kernel_rfl
def acy:ca CX EE G N Ea [J l0,J l1,J l2,ah r3,.ab 0 r4]=(bO (T4 G N [J (sT (aF l2) aM),ah r3,.ab 0 (ay (au r4)),J (sT (ba l0) bG),bR l1]) λq3 o3=>bif bQ q3 then bO (G SD [aT (gR (gC o3 4) 8),J (sT (ba (gC o3 3)) gf),J (sT (aF (gC o3 0)) fZ),ah (gR o3 1),.ab 0 (ay (au (gR o3 2)))]) λ_ o4=>ae [ak (!(gB o4 0)),J (sT (aF (gC o4 2)) aM),ah (gR o4 3),.ab 0 (ay (au (gR o4 4)))]else ae [ak (gB o3 0),J (sT (aF (gC o3 1)) aM),ah (gR o3 2),.ab 0 (ay (au (gR o3 3)))]:aJ):=by kernel_rfl
def Mk:ca CX EE G N xo [J l0,J l1,J l2,ah r3,.ab 0 r4]=(bO (G MI [J [bJ (gR l2 0),iI (gI l2 1)],bR l1]) λ_ o1=>bif gB o1 1 then bO (G Ea [J (sT (ba l0) bG),bR l1,J (sT (aF l2) aM),ah r3,.ab 0 (ay (au r4))]) λ_ o2=>ae [cG (gC o1 0),ak (gB o2 0),J (sT (aF (gC o2 1)) aM),ah (gR o2 2),.ab 0 (ay (au (gR o2 3)))]else ae [cG (gC o1 0),aq,J (sT (aF l2) aM),ah r3,.ab 0 (ay (au r4))]:aJ):=by kernel_rfl
def arw:ca CX EE G N TC [iI i0,J l1,J l2,ah r3,.ab 0 r4]=(bO (G rV [aa (gR l1 6),iI i0]) λ_ o1=>ae [ak (gB o1 0),J (sT (ba l1) gf),J (sT (aF l2) fZ),ah r3,.ab 0 (ay (au r4))]:aJ):=by kernel_rfl
def aaV:Hc G N (n+1) [aa r0,iI i1,iI i2,J l3,J l4,ah r5,.ab 0 r6]=(bif aV i2 i1 then br i2 r0<|bO (G TC [iI (gI (aD r0 i2) 0),J (sT (ba l3) gf),J (sT (aF l4) fZ),ah r5,.ab 0 (ay (au r6))]) λ_ o1=>bif gB o1 0 then ae [iI i2,J (sT (ba (gC o1 1)) gf),J (sT (aF (gC o1 2)) fZ),ah (gR o1 3),.ab 0 (ay (au (gR o1 4)))]else Hc G N n [aa r0,iI i1,cz i2,J (sT (ba (gC o1 1)) gf),J (sT (aF (gC o1 2)) fZ),ah (gR o1 3),.ab 0 (ay (au (gR o1 4)))]else aN [J (sT (ba l3) gf),J (sT (aF l4) fZ),ah r5,.ab 0 (ay (au r6))]:aJ):=by kernel_rfl
def aa1:ca CX EE G N SK [aa r0,J l1,J l2,ah r3,.ab 0 r4]=(bO (Hc G N N [aa r0,iI (ln r0),iI 0,J (sT (ba l1) gf),J (sT (aF l2) fZ),ah r3,.ab 0 (ay (au r4))]) λq2 o2=>bif bQ q2 then ae [iI (gI o2 0),J (sT (ba (gC o2 1)) gf),J (sT (aF (gC o2 2)) fZ),ah (gR o2 3),.ab 0 (ay (au (gR o2 4)))]else ae [iI (-1),J (sT (ba (gC o2 0)) gf),J (sT (aF (gC o2 1)) fZ),ah (gR o2 2),.ab 0 (ay (au (gR o2 3)))]:aJ):=by kernel_rfl
end
noncomputable section
variable {G:Nat->bp->Option UO} {N n:Nat} {i0 i1 i2:Int} {l0 l1 l2 l3 l4 l5 l6:bp} {r0 r1 r2 r3 r4 r5 r6 r7:aZ}
def aox:ca CX EE G N LC [aa r0,J l1,J l2,ah r3,.ab 0 r4]=(bO (G SK [aa r0,J (sT (ba l1) gf),J (sT (aF l2) fZ),ah r3,.ab 0 (ay (au r4))]) λ_ o1=>ae [ak (ck 0 (gI o1 0)),J (sT (ba (gC o1 1)) gf),J (sT (aF (gC o1 2)) fZ),ah (gR o1 3),.ab 0 (ay (au (gR o1 4)))]:aJ):=by kernel_rfl
def aqO:Tw G N [iI i0,J l1,ah r2,.ab 0 r3,J l4,J l5,aT r6]=(bif gI l4 0==1 then ae [iI 0,J (sT (aF l1) aM),ah r2,.ab 0 (ay (au r3)),ev l4,J [bE (gI l5 0),iI (gI l4 1),iI (gI l4 2),iI (gI l5 3),.aA 5],aT r6]else bif gI l4 0==2 then ae [iI i0,J (sT (aF l1) aM),ah r2,.ab 0 (ay (au r3)),ev l4,J (sT (ov l4) [(0,bE (gI l5 0)),(4,.aA 5)]),aT r6]else bif gI l4 0==3 then ae [iI i0,J (sT (aF l1) aM),ah r2,.ab 0 (ay (au r3)),ev l4,J (sT (ov l5) Zz),aT r6]else aN [aq,J (sT (aF l1) aM),ah r2,.ab 0 (ay (au r3)),ev l4,J (sT (ov l5) JN),aa cy,aT r6]:aJ):=by kernel_rfl
def aqN:Tv G N [iI i0,J l1,ah r2,.ab 0 r3,J l4,J l5,aT r6]=(bif gI l5 1 != gI l4 1 then aN [aq,J (sT (aF l1) aM),ah r2,.ab 0 (ay (au r3)),ev l4,J (sT (ov l5) JN),aa cy,aT r6]else bif gI l5 2 != gI l4 2 then aN [aq,J (sT (aF l1) aM),ah r2,.ab 0 (ay (au r3)),ev l4,J (sT (ov l5) JN),aa cy,aT r6]else bif gI l5 3 != gI l4 3 then aN [aq,J (sT (aF l1) aM),ah r2,.ab 0 (ay (au r3)),ev l4,J (sT (ov l5) JN),aa cy,aT r6]else bif ln (gR l4 4) != i0 then aN [aq,J (sT (aF l1) aM),ah r2,.ab 0 (ay (au r3)),ev l4,J (sT (ov l5) JN),aa cy,aT r6]else ae [J (sT (aF l1) aM),ah r2,.ab 0 (ay (au r3)),ev l4,J (sT (ov l5) Zz),aT r6]:aJ):=by kernel_rfl
def abB:A9 G N [iI i0,J l1,ah r2,.ab 0 r3,J l4,J l5,J l6,aa r7]=(bif i0==1 then aP (aV 0 (ln (gR l5 4)))<|bO (G xo [J (sT (ba l4) bG),bR (gA (gR l5 4) 0),J (sT (aF l1) aM),ah r2,.ab 0 (ay (au r3))]) λ_ o3=>bif !(gB o3 1)then aN [aq,J (sT (aF (gC o3 2)) aM),ah (gR o3 3),.ab 0 (ay (au (gR o3 4))),J (sT (ba l4) bG),ev l5,cG (gC o3 0),aa cy]else ae [J (sT (aF (gC o3 2)) aM),ah (gR o3 3),.ab 0 (ay (au (gR o3 4))),J (sT (ba l4) bG),ev l5,cG (gC o3 0)]else ae [J (sT (aF l1) aM),ah r2,.ab 0 (ay (au r3)),J (sT (ba l4) bG),ev l5,J (sT (js l6) [(2,aa r7)])]:aJ):=by kernel_rfl
def apB:S3 G N [J l0,ah r1,.ab 0 r2,J l3,J l4,J l5]=(bif gB l5 0 then aN [aq,J (sT (aF l0) aM),ah r1,.ab 0 (ay (au r2)),J (sT (ba l3) bG),ev l4,cG l5,aa cy]else bO (G Mz [J [bJ (gR l0 0),iI (gI l0 1)],iI (gI l4 1),iI (gI l4 2),iI (gI l4 3)]) λ_ o7=>bif !(gB o7 0)then aN [aq,J (sT (aF l0) aM),ah r1,.ab 0 (ay (au r2)),J (sT (ba l3) bG),ev l4,cG l5,aa cy]else bO (G Bl [J (sT (ba l3) bG),iI (gI l4 1),J (sT (aF l0) aM),ah r1,.ab 0 (ay (au r2))]) λ_ o8=>bif !(gB o8 0)then aN [aq,J (sT (aF (gC o8 1)) aM),ah (gR o8 2),.ab 0 (ay (au (gR o8 3))),J (sT (ba l3) bG),ev l4,cG l5,aa cy]else ae [J (sT (aF (gC o8 1)) aM),ah (gR o8 2),.ab 0 (ay (au (gR o8 3))),J (sT (ba l3) bG),ev l4,cG l5]:aJ):=by kernel_rfl
def apY:LS G N [J l0,ah r1,.ab 0 r2,J l3,J l4,J l5]=(bif gI l4 0==1 then bO (G Bf [J [bJ (gR l0 0),iI (gI l0 1)],iI (gI l4 1),iI (gI l4 2)]) λ_ o5=>bif !(gB o5 0)then aN [aq,J (sT (aF l0) aM),ah r1,.ab 0 (ay (au r2)),J (sT (ba l3) bG),ev l4,cG l5,aa cy]else bO (G Bl [J (sT (ba l3) bG),iI (gI l4 1),J (sT (aF l0) aM),ah r1,.ab 0 (ay (au r2))]) λ_ o6=>bif !(gB o6 0)then aN [aq,J (sT (aF (gC o6 1)) aM),ah (gR o6 2),.ab 0 (ay (au (gR o6 3))),J (sT (ba l3) bG),ev l4,cG l5,aa cy]else ae [aa (([[iI (gI l4 1)]]:aZ)),J (sT (aF (gC o6 1)) aM),ah (gR o6 2),.ab 0 (ay (au (gR o6 3))),J (sT (ba l3) bG),ev l4,cG l5]else bif gI l4 0==2 then bO (S3 G N [J (sT (aF l0) aM),ah r1,.ab 0 (ay (au r2)),J (sT (ba l3) bG),ev l4,cG l5]) λq9 o9=>bif bQ q9 then ae [aa (([[iI (gI (gC o9 4) 1)]]:aZ)),J (sT (aF (gC o9 0)) aM),ah (gR o9 1),.ab 0 (ay (au (gR o9 2))),J (sT (ba (gC o9 3)) bG),ev (gC o9 4),cG (gC o9 5)]else aN [ak (gB o9 0),J (sT (aF (gC o9 1)) aM),ah (gR o9 2),.ab 0 (ay (au (gR o9 3))),J (sT (ba (gC o9 4)) bG),ev (gC o9 5),cG (gC o9 6),aa (gR o9 7)]else bif !(gB l5 0)then bif !(gB l5 1)then aN [aq,J (sT (aF l0) aM),ah r1,.ab 0 (ay (au r2)),J (sT (ba l3) bG),ev l4,cG l5,aa cy]else ae [aa (gR l5 2),J (sT (aF l0) aM),ah r1,.ab 0 (ay (au r2)),J (sT (ba l3) bG),ev l4,cG l5]else ae [aa (gR l5 2),J (sT (aF l0) aM),ah r1,.ab 0 (ay (au r2)),J (sT (ba l3) bG),ev l4,cG l5]:aJ):=by kernel_rfl
def as3:ca CX EE G N Be [J l0,J l1,J l2,ah r3,.ab 0 r4]=(bO (Tw G N [iI 1,J (sT (aF l2) aM),ah r3,.ab 0 (ay (au r4)),ev l1,J [bE (gI l1 0),iI 0,iI 0,iI 0,.aA 5],aT cy]) λq1 o1=>bif bQ q1 then bO (Tv G N [iI (gI o1 0),J (sT (aF (gC o1 1)) aM),ah (gR o1 2),.ab 0 (ay (au (gR o1 3))),ev (gC o1 4),J (sT (ov (gC o1 5)) Zz),aT (gR o1 6)]) λq2 o2=>bif bQ q2 then bO (A9 G N [iI (gI o1 0),J (sT (aF (gC o2 0)) aM),ah (gR o2 1),.ab 0 (ay (au (gR o2 2))),J (sT (ba l0) bG),ev (gC o2 3),J [aq,aq,.aA 6,iI 0,iI 0],aa cy]) λq4 o4=>bif bQ q4 then bO (LS G N [J (sT (aF (gC o4 0)) aM),ah (gR o4 1),.ab 0 (ay (au (gR o4 2))),J (sT (ba (gC o4 3)) bG),ev (gC o4 4),cG (gC o4 5)]) λmy cL=>bif bQ my then bO (G LC [aa (gR cL 0),J (sT (ba (gC cL 4)) gf),J (sT (aF (gC cL 1)) fZ),ah (gR cL 2),.ab 0 (ay (au (gR cL 3)))]) λ_ cP=>ae [aa (gR cL 0),ak (!(gB cP 0)),J (sT (aF (gC cP 2)) aM),ah (gR cP 3),.ab 0 (ay (au (gR cP 4)))]else ae [aa (gR cL 7),ak (gB cL 0),J (sT (aF (gC cL 1)) aM),ah (gR cL 2),.ab 0 (ay (au (gR cL 3)))]else ae [aa (gR o4 7),ak (gB o4 0),J (sT (aF (gC o4 1)) aM),ah (gR o4 2),.ab 0 (ay (au (gR o4 3)))]else ae [aa (gR o2 6),ak (gB o2 0),J (sT (aF (gC o2 1)) aM),ah (gR o2 2),.ab 0 (ay (au (gR o2 3)))]else ae [aa (gR o1 6),ak (gB o1 0),J (sT (aF (gC o1 1)) aM),ah (gR o1 2),.ab 0 (ay (au (gR o1 3)))]:aJ):=by kernel_rfl
def awq:ca CX EE G N Vd [iI i0,J l1]=(bO (G rV [aa (gR l1 0),iI i0]) λ_ o1=>ae [ak (!(gB o1 0)),J [aa (gR l1 0)]]:aJ):=by kernel_rfl
def aa9:LP G N (n+1) [aa r0,iI i1,iI i2,J l3]=(bif aV i2 i1 then br i2 r0<|bO (G Vd [iI (gI (aD r0 i2) 0),J [aa (gR l3 0)]]) λ_ o1=>bif gB o1 0 then ae [iI i2,J [aa (gR (gC o1 1) 0)]]else LP G N n [aa r0,iI i1,cz i2,J [aa (gR (gC o1 1) 0)]]else aN [J [aa (gR l3 0)]]:aJ):=by kernel_rfl
def abm:ca CX EE G N abp [aa r0,J l1]=(bO (LP G N N [aa r0,iI (ln r0),iI 0,J [aa (gR l1 0)]]) λq2 o2=>bif bQ q2 then ae [iI (gI o2 0),J [aa (gR (gC o2 1) 0)]]else ae [iI (-1),J [aa (gR (gC o2 0) 0)]]:aJ):=by kernel_rfl
def abb:ca CX EE G N abe [aa r0,J l1]=(bO (G abp [aa r0,J [aa (gR l1 0)]]) λ_ o1=>ae [ak (ck 0 (gI o1 0)),J [aa (gR (gC o1 1) 0)]]:aJ):=by kernel_rfl
def ad2:ca CX EE G N H2 [aa r0,aa r1]=(bO (G abe [aa r0,J [aa r1]]) λ_ o1=>ae [ak (!(gB o1 0))]:aJ):=by kernel_rfl
def avc:ca CX EE G N UR [J l0,J l1]=(bif gB l1 3 then bif gB l0 1 then c8 else bif gB l0 0 then bO (G H2 [aa (gR l0 2),aa (gR l1 4)]) λ_ o1=>ae [ak (gB o1 0)]else bZ else bif !(gB l0 0)then bif ck (gI l1 1) (gI l0 3)then ae [ak (ck (gI l0 4) (gI l1 2))]else bZ else bZ:aJ):=by kernel_rfl
def as5:ca CX EE G N Uc [iI i0,J l1,J l2,J l3,ah r4,.ab 0 r5]=(br i0 (gR l3 0)<|bO (G UR [cG l1,gL (aD (gR l3 0) i0)]) λ_ o1=>ae [ak (!(gB o1 0)),cG l1,J (sT (ba l2) u6),J (sT (aF l3) u5),ah r4,.ab 0 (ay (au r5))]:aJ):=by kernel_rfl
def aaY:Hf G N (n+1) [aa r0,iI i1,iI i2,J l3,J l4,J l5,ah r6,.ab 0 r7]=(bif aV i2 i1 then br i2 r0<|bO (G Uc [iI (gI (aD r0 i2) 0),cG l3,J (sT (ba l4) u6),J (sT (aF l5) u5),ah r6,.ab 0 (ay (au r7))]) λ_ o1=>bif gB o1 0 then ae [iI i2,cG (gC o1 1),J (sT (ba (gC o1 2)) u6),J (sT (aF (gC o1 3)) u5),ah (gR o1 4),.ab 0 (ay (au (gR o1 5)))]else Hf G N n [aa r0,iI i1,cz i2,cG (gC o1 1),J (sT (ba (gC o1 2)) u6),J (sT (aF (gC o1 3)) u5),ah (gR o1 4),.ab 0 (ay (au (gR o1 5)))]else aN [cG l3,J (sT (ba l4) u6),J (sT (aF l5) u5),ah r6,.ab 0 (ay (au r7))]:aJ):=by kernel_rfl
def aba:ca CX EE G N SR [aa r0,J l1,J l2,J l3,ah r4,.ab 0 r5]=(bO (Hf G N N [aa r0,iI (ln r0),iI 0,cG l1,J (sT (ba l2) u6),J (sT (aF l3) u5),ah r4,.ab 0 (ay (au r5))]) λq2 o2=>bif bQ q2 then ae [iI (gI o2 0),cG (gC o2 1),J (sT (ba (gC o2 2)) u6),J (sT (aF (gC o2 3)) u5),ah (gR o2 4),.ab 0 (ay (au (gR o2 5)))]else ae [iI (-1),cG (gC o2 0),J (sT (ba (gC o2 1)) u6),J (sT (aF (gC o2 2)) u5),ah (gR o2 3),.ab 0 (ay (au (gR o2 4)))]:aJ):=by kernel_rfl
def aoM:ca CX EE G N SJ [aa r0,J l1,J l2,J l3,ah r4,.ab 0 r5]=(bO (G SR [aa r0,cG l1,J (sT (ba l2) u6),J (sT (aF l3) u5),ah r4,.ab 0 (ay (au r5))]) λ_ o1=>ae [ak (ck 0 (gI o1 0)),cG (gC o1 1),J (sT (ba (gC o1 2)) u6),J (sT (aF (gC o1 3)) u5),ah (gR o1 4),.ab 0 (ay (au (gR o1 5)))]:aJ):=by kernel_rfl
def avb:ca CX EE G N zl [J l0,J l1,aa r2,J l3,ah r4,.ab 0 r5]=(bO (G xo [J (sT (ba l0) bG),bR l1,J (sT (aF l3) aM),ah r4,.ab 0 (ay (au r5))]) λ_ o1=>bif gB o1 1 then bO (G SJ [aa r2,cG (gC o1 0),J (sT (ba l0) u6),J (sT (aF (gC o1 2)) u5),ah (gR o1 3),.ab 0 (ay (au (gR o1 4)))]) λ_ o2=>ae [ak (!(gB o2 0)),J (sT (aF (gC o2 3)) aM),ah (gR o2 4),.ab 0 (ay (au (gR o2 5)))]else ae [aq,J (sT (aF (gC o1 2)) aM),ah (gR o1 3),.ab 0 (ay (au (gR o1 4)))]:aJ):=by kernel_rfl
def abC:ca CX EE G N Hl [J l0,J l1,J l2,ah r3,.ab 0 r4]=(bO (G xo [J (sT (ba l0) bG),bR l1,J (sT (aF l2) aM),ah r3,.ab 0 (ay (au r4))]) λ_ o1=>bif gB o1 1 then bO (G qV [cG (gC o1 0)]) λ_ o2=>ae [ak (gB o2 0),J (sT (aF (gC o1 2)) aM),ah (gR o1 3),.ab 0 (ay (au (gR o1 4)))]else ae [aq,J (sT (aF (gC o1 2)) aM),ah (gR o1 3),.ab 0 (ay (au (gR o1 4)))]:aJ):=by kernel_rfl
def ab8:ca CX EE G N Bc [J l0,J l1,J l2,ah r3,.ab 0 r4]=(bO (G xo [J (sT (ba l0) bG),bR l1,J (sT (aF l2) aM),ah r3,.ab 0 (ay (au r4))]) λ_ o1=>bif gB o1 1 then ae [ak (!(gB (gC o1 0) 0)),J (sT (aF (gC o1 2)) aM),ah (gR o1 3),.ab 0 (ay (au (gR o1 4)))]else ae [aq,J (sT (aF (gC o1 2)) aM),ah (gR o1 3),.ab 0 (ay (au (gR o1 4)))]:aJ):=by kernel_rfl
def Tn:ca CX EE G N Hp [J l0,J l1,J l2,ah r3,.ab 0 r4]=(bO (G Be [J (sT (ba l0) bG),ev l1,J (sT (aF l2) aM),ah r3,.ab 0 (ay (au r4))]) λ_ o1=>bif gB o1 1 then bif gI l1 0 != 3 then aP (aV 0 (ln (gR o1 0)))<|br (gI (gA (gR o1 0) 0) 0) (gR (gC o1 2) 0)<|ae [ak (!(gB (aD (gR (gC o1 2) 0) (gI (gA (gR o1 0) 0) 0)) 3)),J (sT (aF (gC o1 2)) aM),ah (gR o1 3),.ab 0 (ay (au (gR o1 4)))]else ae [aq,J (sT (aF (gC o1 2)) aM),ah (gR o1 3),.ab 0 (ay (au (gR o1 4)))]else ae [aq,J (sT (aF (gC o1 2)) aM),ah (gR o1 3),.ab 0 (ay (au (gR o1 4)))]:aJ):=by kernel_rfl
def at5:ca CX EE G N Mr [J l0,iI i1,iI i2,J l3,ah r4,.ab 0 r5]=(bif ck 0 i1 then bif aV i1 (ln (gR l3 5))then bif ck 0 i2 then br i1 (gR l3 5)<|ae [ak (aV i2 (ln (gR (aD (gR l3 5) i1) 2))),J (sT (aF l3) aM),ah r4,.ab 0 (ay (au r5))]else ae [aq,J (sT (aF l3) aM),ah r4,.ab 0 (ay (au r5))]else ae [aq,J (sT (aF l3) aM),ah r4,.ab 0 (ay (au r5))]else ae [aq,J (sT (aF l3) aM),ah r4,.ab 0 (ay (au r5))]:aJ):=by kernel_rfl
def as6:ca CX EE G N D5 [J l0,iI i1,iI i2,J l3,ah r4,.ab 0 r5]=(bif ck 0 i1 then bif aV i1 (ln (gR l3 4))then bif ck 0 i2 then br i1 (gR l3 4)<|ae [ak (aV i2 (ln (gR (aD (gR l3 4) i1) 1))),J (sT (aF l3) aM),ah r4,.ab 0 (ay (au r5))]else ae [aq,J (sT (aF l3) aM),ah r4,.ab 0 (ay (au r5))]else ae [aq,J (sT (aF l3) aM),ah r4,.ab 0 (ay (au r5))]else ae [aq,J (sT (aF l3) aM),ah r4,.ab 0 (ay (au r5))]:aJ):=by kernel_rfl
def azN:ca CX EE G N uG [J l0]=(bO (G HQ [aw l0,J rD]) λ_ o1=>ae [ak (gB o1 0)]:aJ):=by kernel_rfl
def aqh:Tj G N [bE i0,J l1,ah r2,.ab 0 r3]=(bif i0==2 then ae [cu,J (sT (aF l1) aM),ah r2,.ab 0 (ay (au r3))]else ae [ak (i0==3),J (sT (aF l1) aM),ah r2,.ab 0 (ay (au r3))]:aJ):=by kernel_rfl
def aqL:Tt G N [iI i0,J l1,ah r2,.ab 0 r3,J l4]=(bO (Tj G N [bE (gI l4 11),J (sT (aF l1) aM),ah r2,.ab 0 (ay (au r3))]) λ_ o1=>bif gB o1 0 then ae [iI 1,J (sT (aF (gC o1 1)) aM),ah (gR o1 2),.ab 0 (ay (au (gR o1 3))),aw l4]else bif gI l4 11==0 then aP (ck 0 (bx (ln (gR l4 17)- 2))&&ck (bx (ln (gR l4 17)- 2)) (ln (gR l4 17))&&ck (ln (gR l4 17)) (ln (gR l4 17))&&ck (ln (gR l4 17)) (ln (gR l4 17)))<|aP (aV 0 (ln ((gR l4 17).drop ((bx (ln (gR l4 17)- 2)).toNat))))<|bO (G uG [aw (gA ((gR l4 17).drop ((bx (ln (gR l4 17)- 2)).toNat)) 0)]) λ_ o2=>bif !(gB o2 0)then aN [aq,J (sT (aF (gC o1 1)) aM),ah (gR o1 2),.ab 0 (ay (au (gR o1 3))),aw l4]else aP (aV 1 (ln ((gR l4 17).drop ((bx (ln (gR l4 17)- 2)).toNat))))<|bO (G uG [aw (gA ((gR l4 17).drop ((bx (ln (gR l4 17)- 2)).toNat)) 1)]) λ_ o3=>bif !(gB o3 0)then aN [aq,J (sT (aF (gC o1 1)) aM),ah (gR o1 2),.ab 0 (ay (au (gR o1 3))),aw l4]else ae [iI i0,J (sT (aF (gC o1 1)) aM),ah (gR o1 2),.ab 0 (ay (au (gR o1 3))),aw l4]else bif gI l4 11==1 then ae [iI i0,J (sT (aF (gC o1 1)) aM),ah (gR o1 2),.ab 0 (ay (au (gR o1 3))),aw l4]else aN [aq,J (sT (aF (gC o1 1)) aM),ah (gR o1 2),.ab 0 (ay (au (gR o1 3))),aw l4]:aJ):=by kernel_rfl
def as2:ca CX EE G N Hx [J l0,J l1,J l2,ah r3,.ab 0 r4]=(bO (Tt G N [iI 0,J (sT (aF l2) aM),ah r3,.ab 0 (ay (au r4)),aw l1]) λq4 o4=>bif bQ q4 then bif ln (gR (gC o4 4) 12)==gI o4 0 then bif gI o4 0==0 then ae [cu,J (sT (aF (gC o4 1)) aM),ah (gR o4 2),.ab 0 (ay (au (gR o4 3)))]else aP (aV 0 (ln (gR (gC o4 4) 12)))<|bO (G Bc [J (sT (ba l0) bG),bR (gA (gR (gC o4 4) 12) 0),J (sT (aF (gC o4 1)) aM),ah (gR o4 2),.ab 0 (ay (au (gR o4 3)))]) λ_ o5=>ae [ak (gB o5 0),J (sT (aF (gC o5 1)) aM),ah (gR o5 2),.ab 0 (ay (au (gR o5 3)))]else ae [aq,J (sT (aF (gC o4 1)) aM),ah (gR o4 2),.ab 0 (ay (au (gR o4 3)))]else ae [ak (gB o4 0),J (sT (aF (gC o4 1)) aM),ah (gR o4 2),.ab 0 (ay (au (gR o4 3)))]:aJ):=by kernel_rfl
def azO:ca CX EE G N Io [J l0,J l1]=(bif gB l0 3 then bif gB l0 3 then bif gB l1 3 then bO (G H2 [aa (gR l0 4),aa (gR l1 4)]) λ_ o1=>ae [ak (gB o1 0)]else bZ else bZ else bif gB l1 3 then bif gB l0 3 then bif gB l1 3 then bO (G H2 [aa (gR l0 4),aa (gR l1 4)]) λ_ o2=>ae [ak (gB o2 0)]else bZ else bZ else bif ck (gI l1 1) (gI l0 1)then ae [ak (ck (gI l0 2) (gI l1 2))]else bZ:aJ):=by kernel_rfl
end
noncomputable section
variable {G:Nat->bp->Option UO} {N n:Nat} {i0 i1 i2 i3:Int} {l0 l1 l2 l3 l4 l5 l6 l7:bp} {r0 r1 r2 r3 r4 r5 r6 r7 r8:aZ}
def asl:ca CX EE G N TV [iI i0,J l1,J l2,J l3,J l4,ah r5,.ab 0 r6]=(br (gI l3 0) (gR l2 1)<|br (gI (aD (gR l2 1) (gI l3 0)) 0) (gR l4 0)<|br i0 (gR l4 0)<|bO (G Io [gL (aD (gR l4 0) (gI (aD (gR l2 1) (gI l3 0)) 0)),gL (aD (gR l4 0) i0)]) λ_ o1=>ae [ak (!(gB o1 0)),J (sT (ba l1) uZ),J [aa (gR l2 0),aa (gR l2 1)],J [iI (gI l3 0)],J (sT (aF l4) uY),ah r5,.ab 0 (ay (au r6))]:aJ):=by kernel_rfl
def aaX:He G N (n+1) [aa r0,iI i1,iI i2,J l3,J l4,J l5,J l6,ah r7,.ab 0 r8]=(bif aV i2 i1 then br i2 r0<|bO (G TV [iI (gI (aD r0 i2) 0),J (sT (ba l3) uZ),J [aa (gR l4 0),aa (gR l4 1)],J [iI (gI l5 0)],J (sT (aF l6) uY),ah r7,.ab 0 (ay (au r8))]) λ_ o1=>bif gB o1 0 then ae [iI i2,J (sT (ba (gC o1 1)) uZ),J [aa (gR (gC o1 2) 0),aa (gR (gC o1 2) 1)],J [iI (gI (gC o1 3) 0)],J (sT (aF (gC o1 4)) uY),ah (gR o1 5),.ab 0 (ay (au (gR o1 6)))]else He G N n [aa r0,iI i1,cz i2,J (sT (ba (gC o1 1)) uZ),J [aa (gR (gC o1 2) 0),aa (gR (gC o1 2) 1)],J [iI (gI (gC o1 3) 0)],J (sT (aF (gC o1 4)) uY),ah (gR o1 5),.ab 0 (ay (au (gR o1 6)))]else aN [J (sT (ba l3) uZ),J [aa (gR l4 0),aa (gR l4 1)],J [iI (gI l5 0)],J (sT (aF l6) uY),ah r7,.ab 0 (ay (au r8))]:aJ):=by kernel_rfl
def aa6:ca CX EE G N SL [aa r0,J l1,J l2,J l3,J l4,ah r5,.ab 0 r6]=(bO (He G N N [aa r0,iI (ln r0),iI 0,J (sT (ba l1) uZ),J [aa (gR l2 0),aa (gR l2 1)],J [iI (gI l3 0)],J (sT (aF l4) uY),ah r5,.ab 0 (ay (au r6))]) λq2 o2=>bif bQ q2 then ae [iI (gI o2 0),J (sT (ba (gC o2 1)) uZ),J [aa (gR (gC o2 2) 0),aa (gR (gC o2 2) 1)],J [iI (gI (gC o2 3) 0)],J (sT (aF (gC o2 4)) uY),ah (gR o2 5),.ab 0 (ay (au (gR o2 6)))]else ae [iI (-1),J (sT (ba (gC o2 0)) uZ),J [aa (gR (gC o2 1) 0),aa (gR (gC o2 1) 1)],J [iI (gI (gC o2 2) 0)],J (sT (aF (gC o2 3)) uY),ah (gR o2 4),.ab 0 (ay (au (gR o2 5)))]:aJ):=by kernel_rfl
def aoE:ca CX EE G N SG [aa r0,J l1,J l2,J l3,J l4,ah r5,.ab 0 r6]=(bO (G SL [aa r0,J (sT (ba l1) uZ),J [aa (gR l2 0),aa (gR l2 1)],J [iI (gI l3 0)],J (sT (aF l4) uY),ah r5,.ab 0 (ay (au r6))]) λ_ o1=>ae [ak (ck 0 (gI o1 0)),J (sT (ba (gC o1 1)) uZ),J [aa (gR (gC o1 2) 0),aa (gR (gC o1 2) 1)],J [iI (gI (gC o1 3) 0)],J (sT (aF (gC o1 4)) uY),ah (gR o1 5),.ab 0 (ay (au (gR o1 6)))]:aJ):=by kernel_rfl
def asa:T5 G N [J l0,ah r1,.ab 0 r2,J l3,J l4]=(bif gI l4 3==gI l3 1 then aN [aq,J (sT (aF l0) aM),ah r1,.ab 0 (ay (au r2)),J (sT (ba l3) bG),aw l4]else bO (G D5 [J (sT (ba l3) bG),iI (gI l4 3),iI (gI l4 5),J (sT (aF l0) aM),ah r1,.ab 0 (ay (au r2))]) λ_ o1=>bif !(gB o1 0)then aN [aq,J (sT (aF (gC o1 1)) aM),ah (gR o1 2),.ab 0 (ay (au (gR o1 3))),J (sT (ba l3) bG),aw l4]else ae [J (sT (aF (gC o1 1)) aM),ah (gR o1 2),.ab 0 (ay (au (gR o1 3))),J (sT (ba l3) bG),aw l4]:aJ):=by kernel_rfl
def arl:L8 G N [J l0,ah r1,.ab 0 r2,J l3,J l4]=(bif ln (gR l3 13) != ln (gR l4 0)then aN [aq,J (sT (aF l0) aM),ah r1,.ab 0 (ay (au r2)),aw l3,J [aa (gR l4 0),aa (gR l4 1)]]else bif ln (gR l3 15) != ln (gR l4 1)then aN [aq,J (sT (aF l0) aM),ah r1,.ab 0 (ay (au r2)),aw l3,J [aa (gR l4 0),aa (gR l4 1)]]else ae [J (sT (aF l0) aM),ah r1,.ab 0 (ay (au r2)),aw l3,J [aa (gR l4 0),aa (gR l4 1)]]:aJ):=by kernel_rfl
def abJ:L1 G N (n+1) [aT r0,iI i1,iI i2,J l3,ah r4,.ab 0 r5,J l6,J l7]=(bif aV i2 i1 then br i2 r0<|br i2 (gR l7 0)<|bO (G zl [J (sT (ba l6) bG),bR (aD r0 i2),aa (([[iI (gI (aD (gR l7 0) i2) 0)]]:aZ)),J (sT (aF l3) aM),ah r4,.ab 0 (ay (au r5))]) λ_ o4=>bif !(gB o4 0)then ae [aq,J (sT (aF (gC o4 1)) aM),ah (gR o4 2),.ab 0 (ay (au (gR o4 3))),J (sT (ba l6) bG),J [aa (gR l7 0),aa (gR l7 1)]]else L1 G N n [aT r0,iI i1,cz i2,J (sT (aF (gC o4 1)) aM),ah (gR o4 2),.ab 0 (ay (au (gR o4 3))),J (sT (ba l6) bG),J [aa (gR l7 0),aa (gR l7 1)]]else aN [J (sT (aF l3) aM),ah r4,.ab 0 (ay (au r5)),J (sT (ba l6) bG),J [aa (gR l7 0),aa (gR l7 1)]]:aJ):=by kernel_rfl
def ark:TM G N [J l0,ah r1,.ab 0 r2,J l3,J l4,J l5]=(bO (L1 G N N [aT (gR l4 13),iI (ln (gR l4 13)),iI 0,J (sT (aF l0) aM),ah r1,.ab 0 (ay (au r2)),J (sT (ba l3) bG),J [aa (gR l5 0),aa (gR l5 1)]]) λq5 o5=>bif bQ q5 then aN [ak (gB o5 0),J (sT (aF (gC o5 1)) aM),ah (gR o5 2),.ab 0 (ay (au (gR o5 3))),J (sT (ba (gC o5 4)) bG),aw l4,J [aa (gR (gC o5 5) 0),aa (gR (gC o5 5) 1)]]else ae [J (sT (aF (gC o5 0)) aM),ah (gR o5 1),.ab 0 (ay (au (gR o5 2))),J (sT (ba (gC o5 3)) bG),aw l4,J [aa (gR (gC o5 4) 0),aa (gR (gC o5 4) 1)]]:aJ):=by kernel_rfl
def Tf:DZ G N (n+1) [bH r0,iI i1,iI i2,J l3,ah r4,.ab 0 r5,J l6,J l7]=(bif aV i2 i1 then br i2 r0<|bO (G Be [J (sT (ba l6) bG),ev (aD r0 i2),J (sT (aF l3) aM),ah r4,.ab 0 (ay (au r5))]) λ_ o7=>bif !(gB o7 1)then ae [aq,J (sT (aF (gC o7 2)) aM),ah (gR o7 3),.ab 0 (ay (au (gR o7 4))),J (sT (ba l6) bG),J [aa (gR l7 0),aa (gR l7 1)]]else bO (G SG [aa (gR o7 0),J (sT (ba l6) uZ),J [aa (gR l7 0),aa (gR l7 1)],J [iI i2],J (sT (aF (gC o7 2)) uY),ah (gR o7 3),.ab 0 (ay (au (gR o7 4)))]) λ_ o8=>bif gB o8 0 then ae [aq,J (sT (aF (gC o8 4)) aM),ah (gR o8 5),.ab 0 (ay (au (gR o8 6))),J (sT (ba (gC o8 1)) bG),J [aa (gR (gC o8 2) 0),aa (gR (gC o8 2) 1)]]else DZ G N n [bH r0,iI i1,cz i2,J (sT (aF (gC o8 4)) aM),ah (gR o8 5),.ab 0 (ay (au (gR o8 6))),J (sT (ba (gC o8 1)) bG),J [aa (gR (gC o8 2) 0),aa (gR (gC o8 2) 1)]]else aN [J (sT (aF l3) aM),ah r4,.ab 0 (ay (au r5)),J (sT (ba l6) bG),J [aa (gR l7 0),aa (gR l7 1)]]:aJ):=by kernel_rfl
def acz:ca CX EE G N Ms [J l0,J l1,J l2,ah r3,.ab 0 r4]=(bO (T5 G N [J (sT (aF l2) aM),ah r3,.ab 0 (ay (au r4)),J (sT (ba l0) bG),aw l1]) λq2 o2=>bif bQ q2 then br (gI (gC o2 4) 3) (gR (gC o2 0) 4)<|br (gI (gC o2 4) 5) (gR (aD (gR (gC o2 0) 4) (gI (gC o2 4) 3)) 1)<|bO (L8 G N [J (sT (aF (gC o2 0)) aM),ah (gR o2 1),.ab 0 (ay (au (gR o2 2))),aw (gC o2 4),J [aa (gR (aD (gR (aD (gR (gC o2 0) 4) (gI (gC o2 4) 3)) 1) (gI (gC o2 4) 5)) 0),aa (gR (aD (gR (aD (gR (gC o2 0) 4) (gI (gC o2 4) 3)) 1) (gI (gC o2 4) 5)) 1)]]) λq3 o3=>bif bQ q3 then bO (TM G N [J (sT (aF (gC o3 0)) aM),ah (gR o3 1),.ab 0 (ay (au (gR o3 2))),J (sT (ba (gC o2 3)) bG),aw (gC o3 3),J [aa (gR (gC o3 4) 0),aa (gR (gC o3 4) 1)]]) λq6 o6=>bif bQ q6 then bO (DZ G N N [bH (gR (gC o6 4) 15),iI (ln (gR (gC o6 4) 15)),iI 0,J (sT (aF (gC o6 0)) aM),ah (gR o6 1),.ab 0 (ay (au (gR o6 2))),J (sT (ba (gC o6 3)) bG),J [aa (gR (gC o6 5) 0),aa (gR (gC o6 5) 1)]]) λq9 o9=>bif bQ q9 then ae [ak (gB o9 0),J (sT (aF (gC o9 1)) aM),ah (gR o9 2),.ab 0 (ay (au (gR o9 3)))]else ae [cu,J (sT (aF (gC o9 0)) aM),ah (gR o9 1),.ab 0 (ay (au (gR o9 2)))]else ae [ak (gB o6 0),J (sT (aF (gC o6 1)) aM),ah (gR o6 2),.ab 0 (ay (au (gR o6 3)))]else ae [ak (gB o3 0),J (sT (aF (gC o3 1)) aM),ah (gR o3 2),.ab 0 (ay (au (gR o3 3)))]else ae [ak (gB o2 0),J (sT (aF (gC o2 1)) aM),ah (gR o2 2),.ab 0 (ay (au (gR o2 3)))]:aJ):=by kernel_rfl
def au9:ca CX EE G N My [J l0,iI i1,J l2,ah r3,.ab 0 r4]=(bO (G D5 [J (sT (ba l0) bG),iI (gI l0 1),iI i1,J (sT (aF l2) aM),ah r3,.ab 0 (ay (au r4))]) λ_ o1=>bif gB o1 0 then bO (G rV [aa (gR l0 4),iI i1]) λ_ o2=>ae [ak (!(gB o2 0)),J (sT (aF (gC o1 1)) aM),ah (gR o1 2),.ab 0 (ay (au (gR o1 3)))]else ae [aq,J (sT (aF (gC o1 1)) aM),ah (gR o1 2),.ab 0 (ay (au (gR o1 3)))]:aJ):=by kernel_rfl
def arx:ca CX EE G N TD [iI i0,iI i1,J l2,J l3,ah r4,.ab 0 r5]=(br i0 (gR l3 0)<|br i1 (gR l3 0)<|bO (G Io [gL (aD (gR l3 0) i0),gL (aD (gR l3 0) i1)]) λ_ o1=>bif gB o1 0 then br i1 (gR l3 0)<|br i0 (gR l3 0)<|bO (G Io [gL (aD (gR l3 0) i1),gL (aD (gR l3 0) i0)]) λ_ o2=>ae [ak (gB o2 0),J (sT (ba l2) gf),J (sT (aF l3) fZ),ah r4,.ab 0 (ay (au r5))]else ae [aq,J (sT (ba l2) gf),J (sT (aF l3) fZ),ah r4,.ab 0 (ay (au r5))]:aJ):=by kernel_rfl
def aaW:LD G N (n+1) [aa r0,aa r1,iI i2,iI i3,J l4,J l5,ah r6,.ab 0 r7]=(bif aV i3 i2 then br i3 r1<|br i3 r0<|bO (G TD [iI (gI (aD r1 i3) 0),iI (gI (aD r0 i3) 0),J (sT (ba l4) gf),J (sT (aF l5) fZ),ah r6,.ab 0 (ay (au r7))]) λ_ o1=>bif !(gB o1 0)then ae [aq,J (sT (ba (gC o1 1)) gf),J (sT (aF (gC o1 2)) fZ),ah (gR o1 3),.ab 0 (ay (au (gR o1 4)))]else LD G N n [aa r0,aa r1,iI i2,cz i3,J (sT (ba (gC o1 1)) gf),J (sT (aF (gC o1 2)) fZ),ah (gR o1 3),.ab 0 (ay (au (gR o1 4)))]else aN [J (sT (ba l4) gf),J (sT (aF l5) fZ),ah r6,.ab 0 (ay (au r7))]:aJ):=by kernel_rfl
def aoS:ca CX EE G N LK [aa r0,aa r1,J l2,J l3,ah r4,.ab 0 r5]=(bif ln r0 != ln r1 then ae [aq,J (sT (ba l2) gf),J (sT (aF l3) fZ),ah r4,.ab 0 (ay (au r5))]else bO (LD G N N [aa r1,aa r0,iI (ln r0),iI 0,J (sT (ba l2) gf),J (sT (aF l3) fZ),ah r4,.ab 0 (ay (au r5))]) λq2 o2=>bif bQ q2 then ae [ak (gB o2 0),J (sT (ba (gC o2 1)) gf),J (sT (aF (gC o2 2)) fZ),ah (gR o2 3),.ab 0 (ay (au (gR o2 4)))]else ae [cu,J (sT (ba (gC o2 0)) gf),J (sT (aF (gC o2 1)) fZ),ah (gR o2 2),.ab 0 (ay (au (gR o2 3)))]:aJ):=by kernel_rfl
def arj:TL G N [J l0,ah r1,.ab 0 r2,J l3,J l4]=(bif aV (gI l3 10) 0 then aN [aq,J (sT (aF l0) aM),ah r1,.ab 0 (ay (au r2)),J (sT (ba l3) bG),aw l4]else bO (G D5 [J (sT (ba l3) bG),iI (gI l4 3),iI (gI l4 5),J (sT (aF l0) aM),ah r1,.ab 0 (ay (au r2))]) λ_ o1=>bif !(gB o1 0)then aN [aq,J (sT (aF (gC o1 1)) aM),ah (gR o1 2),.ab 0 (ay (au (gR o1 3))),J (sT (ba l3) bG),aw l4]else bif gI l4 3==gI l3 1 then bif gI l4 5==gI l3 10 then aN [aq,J (sT (aF (gC o1 1)) aM),ah (gR o1 2),.ab 0 (ay (au (gR o1 3))),J (sT (ba l3) bG),aw l4]else ae [J (sT (aF (gC o1 1)) aM),ah (gR o1 2),.ab 0 (ay (au (gR o1 3))),J (sT (ba l3) bG),aw l4]else ae [J (sT (aF (gC o1 1)) aM),ah (gR o1 2),.ab 0 (ay (au (gR o1 3))),J (sT (ba l3) bG),aw l4]:aJ):=by kernel_rfl
def acm:ca CX EE G N Ua [J l0,J l1,J l2,ah r3,.ab 0 r4]=(bO (TL G N [J (sT (aF l2) aM),ah r3,.ab 0 (ay (au r4)),J (sT (ba l0) bG),aw l1]) λq2 o2=>bif bQ q2 then br (gI (gC o2 3) 1) (gR (gC o2 0) 4)<|br (gI (gC o2 3) 10) (gR (aD (gR (gC o2 0) 4) (gI (gC o2 3) 1)) 1)<|br (gI (gC o2 4) 3) (gR (gC o2 0) 4)<|br (gI (gC o2 4) 5) (gR (aD (gR (gC o2 0) 4) (gI (gC o2 4) 3)) 1)<|bif bx ((ln (gR (aD (gR (aD (gR (gC o2 0) 4) (gI (gC o2 4) 3)) 1) (gI (gC o2 4) 5)) 0))+(ln (gR (aD (gR (aD (gR (gC o2 0) 4) (gI (gC o2 4) 3)) 1) (gI (gC o2 4) 5)) 1)))==0 then ae [cu,J (sT (aF (gC o2 0)) aM),ah (gR o2 1),.ab 0 (ay (au (gR o2 2)))]else bO (G LK [aa (gR (aD (gR (aD (gR (gC o2 0) 4) (gI (gC o2 3) 1)) 1) (gI (gC o2 3) 10)) 0),aa (gR (aD (gR (aD (gR (gC o2 0) 4) (gI (gC o2 4) 3)) 1) (gI (gC o2 4) 5)) 0),J (sT (ba (gC o2 3)) gf),J (sT (aF (gC o2 0)) fZ),ah (gR o2 1),.ab 0 (ay (au (gR o2 2)))]) λ_ o3=>bif gB o3 0 then bO (G LK [aa (gR (aD (gR (aD (gR (gC o2 0) 4) (gI (gC o2 3) 1)) 1) (gI (gC o2 3) 10)) 1),aa (gR (aD (gR (aD (gR (gC o2 0) 4) (gI (gC o2 4) 3)) 1) (gI (gC o2 4) 5)) 1),J (sT (ba (gC o3 1)) gf),J (sT (aF (gC o3 2)) fZ),ah (gR o3 3),.ab 0 (ay (au (gR o3 4)))]) λ_ o4=>ae [ak (gB o4 0),J (sT (aF (gC o4 2)) aM),ah (gR o4 3),.ab 0 (ay (au (gR o4 4)))]else ae [aq,J (sT (aF (gC o3 2)) aM),ah (gR o3 3),.ab 0 (ay (au (gR o3 4)))]else ae [ak (gB o2 0),J (sT (aF (gC o2 1)) aM),ah (gR o2 2),.ab 0 (ay (au (gR o2 3)))]:aJ):=by kernel_rfl
def apK:S6 G N [J l0,ah r1,.ab 0 r2,J l3,J l4]=(bO (G Bf [J [bJ (gR l0 0),iI (gI l0 1)],iI (gI l4 2),iI 0]) λ_ o5=>bif !(gB o5 0)then aN [aq,J (sT (aF l0) aM),ah r1,.ab 0 (ay (au r2)),J (sT (ba l3) bG),aw l4]else br (gI l4 2) (gR l0 0)<|bif gB (aD (gR l0 0) (gI l4 2)) 3 then aN [aq,J (sT (aF l0) aM),ah r1,.ab 0 (ay (au r2)),J (sT (ba l3) bG),aw l4]else br (gI l4 2) (gR l0 0)<|bif gI (aD (gR l0 0) (gI l4 2)) 0 != 1 then aN [aq,J (sT (aF l0) aM),ah r1,.ab 0 (ay (au r2)),J (sT (ba l3) bG),aw l4]else bO (G Bl [J (sT (ba l3) bG),iI (gI l4 2),J (sT (aF l0) aM),ah r1,.ab 0 (ay (au r2))]) λ_ o6=>bif !(gB o6 0)then aN [aq,J (sT (aF (gC o6 1)) aM),ah (gR o6 2),.ab 0 (ay (au (gR o6 3))),J (sT (ba l3) bG),aw l4]else bO (G rV [aa (gR l3 6),iI (gI l4 2)]) λ_ o7=>bif gB o7 0 then aN [aq,J (sT (aF (gC o6 1)) aM),ah (gR o6 2),.ab 0 (ay (au (gR o6 3))),J (sT (ba l3) bG),aw l4]else ae [J (sT (aF (gC o6 1)) aM),ah (gR o6 2),.ab 0 (ay (au (gR o6 3))),J (sT (ba l3) bG),aw l4]:aJ):=by kernel_rfl
def apA:S2 G N [bE i0,J l1,ah r2,.ab 0 r3]=(bif i0==11 then ae [cu,J (sT (aF l1) aM),ah r2,.ab 0 (ay (au r3))]else ae [ak (i0==15),J (sT (aF l1) aM),ah r2,.ab 0 (ay (au r3))]:aJ):=by kernel_rfl
def apr:SZ G N [bE i0,J l1,ah r2,.ab 0 r3]=(bif i0==12 then ae [cu,J (sT (aF l1) aM),ah r2,.ab 0 (ay (au r3))]else ae [ak (i0==13),J (sT (aF l1) aM),ah r2,.ab 0 (ay (au r3))]:aJ):=by kernel_rfl
end
noncomputable section
variable {G:Nat->bp->Option UO} {N n:Nat} {i0 i1 i2:Int} {l0 l1 l2 l3 l4 l5 l6 l7:bp} {r0 r1 r2 r3 r4 r5 r6 r8:aZ}
def uC:ca CX EE G N Mj [J l0,J l1,J l2,ah r3,.ab 0 r4]=(bif gI l1 0==2 then aP (aV 0 (ln (gR l1 14)))<|bO (G Be [J (sT (ba l0) bG),ev (gA (gR l1 14) 0),J (sT (aF l2) aM),ah r3,.ab 0 (ay (au r4))]) λ_ o1=>bif gB o1 1 then aP (aV 0 (ln (gR l1 12)))<|bO (G zl [J (sT (ba l0) bG),bR (gA (gR l1 12) 0),aa (gR o1 0),J (sT (aF (gC o1 2)) aM),ah (gR o1 3),.ab 0 (ay (au (gR o1 4)))]) λ_ o2=>ae [ak (gB o2 0),J (sT (aF (gC o2 1)) aM),ah (gR o2 2),.ab 0 (ay (au (gR o2 3)))]else ae [aq,J (sT (aF (gC o1 2)) aM),ah (gR o1 3),.ab 0 (ay (au (gR o1 4)))]else bif gI l1 0==4 then aP (aV 0 (ln (gR l1 12)))<|bO (G Hl [J (sT (ba l0) bG),bR (gA (gR l1 12) 0),J (sT (aF l2) aM),ah r3,.ab 0 (ay (au r4))]) λ_ o3=>ae [ak (gB o3 0),J (sT (aF (gC o3 1)) aM),ah (gR o3 2),.ab 0 (ay (au (gR o3 3)))]else bif gI l1 0==5 then aP (aV 0 (ln (gR l1 12)))<|bO (G Hl [J (sT (ba l0) bG),bR (gA (gR l1 12) 0),J (sT (aF l2) aM),ah r3,.ab 0 (ay (au r4))]) λ_ o4=>ae [ak (gB o4 0),J (sT (aF (gC o4 1)) aM),ah (gR o4 2),.ab 0 (ay (au (gR o4 3)))]else bif gI l1 0==6 then bO (S6 G N [J (sT (aF l2) aM),ah r3,.ab 0 (ay (au r4)),J (sT (ba l0) bG),aw l1]) λq8 o8=>bif bQ q8 then aP (aV 0 (ln (gR (gC o8 4) 12)))<|bO (G Bc [J (sT (ba (gC o8 3)) bG),bR (gA (gR (gC o8 4) 12) 0),J (sT (aF (gC o8 0)) aM),ah (gR o8 1),.ab 0 (ay (au (gR o8 2)))]) λ_ o9=>bif gB o9 0 then aP (aV 1 (ln (gR (gC o8 4) 12)))<|bO (G Bc [J (sT (ba (gC o8 3)) bG),bR (gA (gR (gC o8 4) 12) 1),J (sT (aF (gC o9 1)) aM),ah (gR o9 2),.ab 0 (ay (au (gR o9 3)))]) λ_ cL=>bif gB cL 0 then aP (aV 0 (ln (gR (gC o8 4) 12)))<|bO (G zl [J (sT (ba (gC o8 3)) bG),bR (gA (gR (gC o8 4) 12) 0),aa (([[iI (gI (gC o8 4) 2)]]:aZ)),J (sT (aF (gC cL 1)) aM),ah (gR cL 2),.ab 0 (ay (au (gR cL 3)))]) λ_ cP=>bif gB cP 0 then aP (aV 1 (ln (gR (gC o8 4) 12)))<|bO (G zl [J (sT (ba (gC o8 3)) bG),bR (gA (gR (gC o8 4) 12) 1),aa (([[iI (gI (gC o8 4) 2)]]:aZ)),J (sT (aF (gC cP 1)) aM),ah (gR cP 2),.ab 0 (ay (au (gR cP 3)))]) λ_ dc=>ae [ak (gB dc 0),J (sT (aF (gC dc 1)) aM),ah (gR dc 2),.ab 0 (ay (au (gR dc 3)))]else ae [aq,J (sT (aF (gC cP 1)) aM),ah (gR cP 2),.ab 0 (ay (au (gR cP 3)))]else ae [aq,J (sT (aF (gC cL 1)) aM),ah (gR cL 2),.ab 0 (ay (au (gR cL 3)))]else ae [aq,J (sT (aF (gC o9 1)) aM),ah (gR o9 2),.ab 0 (ay (au (gR o9 3)))]else ae [ak (gB o8 0),J (sT (aF (gC o8 1)) aM),ah (gR o8 2),.ab 0 (ay (au (gR o8 3)))]else bif gI l1 0==7 then bif ck 1 (gI l1 1)then bif ck (gI l1 1) 8192 then bO (G rV [aa (gR l0 3),iI (gI l1 1)]) λ_ eV=>ae [ak (!(gB eV 0)),J (sT (aF l2) aM),ah r3,.ab 0 (ay (au r4))]else ae [aq,J (sT (aF l2) aM),ah r3,.ab 0 (ay (au r4))]else ae [aq,J (sT (aF l2) aM),ah r3,.ab 0 (ay (au r4))]else bif gI l1 0==8 then bO (G rV [aa (gR l0 2),iI (gI l1 1)]) λ_ c7=>ae [ak (gB c7 0),J (sT (aF l2) aM),ah r3,.ab 0 (ay (au r4))]else bif gI l1 0==10 then bif gI l1 1==0 then bif gB l0 9 then ae [cu,J (sT (aF l2) aM),ah r3,.ab 0 (ay (au r4))]else bif ck 1 (gI l1 1)then ae [ak (ck (gI l1 1) (gI l2 3)),J (sT (aF l2) aM),ah r3,.ab 0 (ay (au r4))]else ae [aq,J (sT (aF l2) aM),ah r3,.ab 0 (ay (au r4))]else bif ck 1 (gI l1 1)then ae [ak (ck (gI l1 1) (gI l2 3)),J (sT (aF l2) aM),ah r3,.ab 0 (ay (au r4))]else ae [aq,J (sT (aF l2) aM),ah r3,.ab 0 (ay (au r4))]else bO (S2 G N [bE (gI l1 0),J (sT (aF l2) aM),ah r3,.ab 0 (ay (au r4))]) λ_ dh=>bif gB dh 0 then aP (aV 0 (ln (gR l1 12)))<|bO (G Bc [J (sT (ba l0) bG),bR (gA (gR l1 12) 0),J (sT (aF (gC dh 1)) aM),ah (gR dh 2),.ab 0 (ay (au (gR dh 3)))]) λ_ fI=>ae [ak (gB fI 0),J (sT (aF (gC fI 1)) aM),ah (gR fI 2),.ab 0 (ay (au (gR fI 3)))]else bO (SZ G N [bE (gI l1 0),J (sT (aF (gC dh 1)) aM),ah (gR dh 2),.ab 0 (ay (au (gR dh 3)))]) λ_ dj=>bif gB dj 0 then aP (aV 0 (ln (gR l1 14)))<|bO (G Hp [J (sT (ba l0) bG),ev (gA (gR l1 14) 0),J (sT (aF (gC dj 1)) aM),ah (gR dj 2),.ab 0 (ay (au (gR dj 3)))]) λ_ fW=>ae [ak (gB fW 0),J (sT (aF (gC fW 1)) aM),ah (gR fW 2),.ab 0 (ay (au (gR fW 3)))]else bif gI l1 0==14 then bif gB l1 6 then aP (aV 0 (ln (gR l1 14)))<|bO (G Hp [J (sT (ba l0) bG),ev (gA (gR l1 14) 0),J (sT (aF (gC dj 1)) aM),ah (gR dj 2),.ab 0 (ay (au (gR dj 3)))]) λ_ gZ=>bif gB gZ 0 then bO (G rV [aa (gR l0 5),iI (gI l1 4)]) λ_ rG=>bif gB rG 0 then bO (G Mr [J (sT (ba l0) bG),iI (gI l1 4),iI (gI l1 5),J (sT (aF (gC gZ 1)) aM),ah (gR gZ 2),.ab 0 (ay (au (gR gZ 3)))]) λ_ iP=>ae [ak (gB iP 0),J (sT (aF (gC iP 1)) aM),ah (gR iP 2),.ab 0 (ay (au (gR iP 3)))]else ae [aq,J (sT (aF (gC gZ 1)) aM),ah (gR gZ 2),.ab 0 (ay (au (gR gZ 3)))]else ae [aq,J (sT (aF (gC gZ 1)) aM),ah (gR gZ 2),.ab 0 (ay (au (gR gZ 3)))]else aP (aV 0 (ln (gR l1 14)))<|bO (G Hp [J (sT (ba l0) bG),ev (gA (gR l1 14) 0),J (sT (aF (gC dj 1)) aM),ah (gR dj 2),.ab 0 (ay (au (gR dj 3)))]) λ_ vE=>bif gB vE 0 then bO (G D5 [J (sT (ba l0) bG),iI (gI l0 1),iI (gI l1 5),J (sT (aF (gC vE 1)) aM),ah (gR vE 2),.ab 0 (ay (au (gR vE 3)))]) λ_ GJ=>ae [ak (gB GJ 0),J (sT (aF (gC GJ 1)) aM),ah (gR GJ 2),.ab 0 (ay (au (gR GJ 3)))]else ae [aq,J (sT (aF (gC vE 1)) aM),ah (gR vE 2),.ab 0 (ay (au (gR vE 3)))]else bif gI l1 0==16 then bO (G Hx [J (sT (ba l0) bG),aw l1,J (sT (aF (gC dj 1)) aM),ah (gR dj 2),.ab 0 (ay (au (gR dj 3)))]) λ_ jk=>bif gB jk 0 then bO (G Ms [J (sT (ba l0) bG),aw l1,J (sT (aF (gC jk 1)) aM),ah (gR jk 2),.ab 0 (ay (au (gR jk 3)))]) λ_ GI=>ae [ak (gB GI 0),J (sT (aF (gC GI 1)) aM),ah (gR GI 2),.ab 0 (ay (au (gR GI 3)))]else ae [aq,J (sT (aF (gC jk 1)) aM),ah (gR jk 2),.ab 0 (ay (au (gR jk 3)))]else bif gI l1 0==17 then bO (G Hx [J (sT (ba l0) bG),aw l1,J (sT (aF (gC dj 1)) aM),ah (gR dj 2),.ab 0 (ay (au (gR dj 3)))]) λ_ yN=>bif gB yN 0 then bO (G Mr [J (sT (ba l0) bG),iI (gI l1 4),iI (gI l1 5),J (sT (aF (gC yN 1)) aM),ah (gR yN 2),.ab 0 (ay (au (gR yN 3)))]) λ_ GH=>ae [ak (gB GH 0),J (sT (aF (gC GH 1)) aM),ah (gR GH 2),.ab 0 (ay (au (gR GH 3)))]else ae [aq,J (sT (aF (gC yN 1)) aM),ah (gR yN 2),.ab 0 (ay (au (gR yN 3)))]else bif gI l1 0==18 then bO (G My [J (sT (ba l0) bG),iI (gI l1 5),J (sT (aF (gC dj 1)) aM),ah (gR dj 2),.ab 0 (ay (au (gR dj 3)))]) λ_ RV=>ae [ak (gB RV 0),J (sT (aF (gC RV 1)) aM),ah (gR RV 2),.ab 0 (ay (au (gR RV 3)))]else bif gI l1 0==20 then bif ck 0 (gI l1 4)then bif aV (gI l1 4) (ln (gR (gC dj 1) 5))then bO (G rV [aa (gR l0 5),iI (gI l1 4)]) λ_ o29=>bif !(gB o29 0)then bif ln (gR l0 5)==0 then ae [cu,J (sT (aF (gC dj 1)) aM),ah (gR dj 2),.ab 0 (ay (au (gR dj 3)))]else br (gI l1 4) (gR (gC dj 1) 5)<|ae [ak (ln (gR (aD (gR (gC dj 1) 5) (gI l1 4)) 2)==0),J (sT (aF (gC dj 1)) aM),ah (gR dj 2),.ab 0 (ay (au (gR dj 3)))]else ae [aq,J (sT (aF (gC dj 1)) aM),ah (gR dj 2),.ab 0 (ay (au (gR dj 3)))]else ae [aq,J (sT (aF (gC dj 1)) aM),ah (gR dj 2),.ab 0 (ay (au (gR dj 3)))]else ae [aq,J (sT (aF (gC dj 1)) aM),ah (gR dj 2),.ab 0 (ay (au (gR dj 3)))]else bif gI l1 0==21 then bO (G Ua [J (sT (ba l0) bG),aw l1,J (sT (aF (gC dj 1)) aM),ah (gR dj 2),.ab 0 (ay (au (gR dj 3)))]) λ_ RU=>ae [ak (gB RU 0),J (sT (aF (gC RU 1)) aM),ah (gR RU 2),.ab 0 (ay (au (gR RU 3)))]else bif gI l1 0==22 then bif ck 1 (ln (gR l1 16))then bif ck (ln (gR l1 16)) 32 then bO (G H0 [aa (gR l1 16),iI 1,iI (bx ((ln (gR (gC dj 1) 4))- 1))]) λ_ o31=>ae [ak (gB o31 0),J (sT (aF (gC dj 1)) aM),ah (gR dj 2),.ab 0 (ay (au (gR dj 3)))]else ae [aq,J (sT (aF (gC dj 1)) aM),ah (gR dj 2),.ab 0 (ay (au (gR dj 3)))]else ae [aq,J (sT (aF (gC dj 1)) aM),ah (gR dj 2),.ab 0 (ay (au (gR dj 3)))]else ae [cu,J (sT (aF (gC dj 1)) aM),ah (gR dj 2),.ab 0 (ay (au (gR dj 3)))]:aJ):=by kernel_rfl
def as4:ca CX EE G N D4 [J l0,J l1,ah r2,.ab 0 r3]=(ae [J (sT (ba l0) [(0,.ptr 0 0 0),(2,aa cy),(9,aq),(10,iI (-1))]),J (sT (aF l1) aM),ah r2,.ab 0 (ay (au r3))]:aJ):=by kernel_rfl
def arn:TN G N [J l0,ah r1,.ab 0 r2,J l3,J l4]=(bif aV 256 (ln (gR l4 18))then aN [aq,J (sT (aF l0) aM),ah r1,.ab 0 (ay (au r2)),J (sT (ba l3) bG),aw l4]else bif aV 16 (ln (gR l4 19))then aN [aq,J (sT (aF l0) aM),ah r1,.ab 0 (ay (au r2)),J (sT (ba l3) bG),aw l4]else bO (G H0 [aa (gR l4 16),iI (bx (gI l3 1+1)),iI (bx (ln (gR l0 4)- 1))]) λ_ o1=>bif !(gB o1 0)then aN [aq,J (sT (aF l0) aM),ah r1,.ab 0 (ay (au r2)),J (sT (ba l3) bG),aw l4]else ae [J (sT (aF l0) aM),ah r1,.ab 0 (ay (au r2)),J (sT (ba l3) bG),aw l4]:aJ):=by kernel_rfl
def abK:D0 G N (n+1) [aa r0,iI i1,iI i2,J l3,ah r4,.ab 0 r5,J l6]=(bif aV i2 i1 then br i2 r0<|match az.dM (au r5) (iI (gI (aD r0 i2) 0))with|some m3=>(D0 G N n [aa r0,iI i1,cz i2,J (sT (aF l3) aM),ah r4,.ab 0 (ay (az.iK (au r5) (iI (gI (aD r0 i2) 0)) (iI (bx (m3.toI+1))))),J (sT (ba l6) bG)])|none=>(D0 G N n [aa r0,iI i1,cz i2,J (sT (aF l3) aM),ah r4,.ab 0 (ay (az.iK (au r5) (iI (gI (aD r0 i2) 0)) (iI 1))),J (sT (ba l6) bG)])else ae [J (sT (aF l3) aM),ah r4,.ab 0 (ay (au r5)),J (sT (ba l6) bG)]:aJ):=by kernel_rfl
def aqQ:Ty G N [J l0,ah r1,.ab 0 r2,J l3,J l4]=(bO (D0 G N N [aa (gR l4 16),iI (ln (gR l4 16)),iI 0,J (sT (aF l0) aM),ah r1,.ab 0 (ay (au r2)),J (sT (ba l3) bG)]) λ_ o4=>ae [J (sT (aF (gC o4 0)) aM),ah (gR o4 1),.ab 0 (ay (au (gR o4 2))),J (sT (ba (gC o4 3)) bG),aw l4]:aJ):=by kernel_rfl
def LR:Hm G N (n+1) [c5 r0,iI i1,iI i2,J l3,ah r4,.ab 0 r5,J l6,J l7]=(bif aV i2 i1 then br i2 r0<|bO (G jZ [J (sT (ba l6) bG),aw (aD r0 i2),J (sT (aF l3) aM),ah r4,.ab 0 (ay (au r5))]) λ_ o8=>bif !(gB o8 0)then ae [aq,J (sT (aF (gC o8 1)) aM),ah (gR o8 2),.ab 0 (ay (au (gR o8 3))),J (sT (ba l6) bG),J (sT (ba l7) bG)]else bO (G jZ [J (sT (ba l7) bG),J (cO dD 21 (aD r0 i2)),J (sT (aF (gC o8 1)) aM),ah (gR o8 2),.ab 0 (ay (au (gR o8 3)))]) λ_ o9=>bif !(gB o9 0)then ae [aq,J (sT (aF (gC o9 1)) aM),ah (gR o9 2),.ab 0 (ay (au (gR o9 3))),J (sT (ba l6) bG),J (sT (ba l7) bG)]else Hm G N n [c5 r0,iI i1,cz i2,J (sT (aF (gC o9 1)) aM),ah (gR o9 2),.ab 0 (ay (au (gR o9 3))),J (sT (ba l6) bG),J (sT (ba l7) bG)]else aN [J (sT (aF l3) aM),ah r4,.ab 0 (ay (au r5)),J (sT (ba l6) bG),J (sT (ba l7) bG)]:aJ):=by kernel_rfl
def aqj:Tl G N [J l0,ah r1,.ab 0 r2,J l3,J l4,J l5]=(bO (Hm G N N [c5 (gR l3 18),iI (ln (gR l3 18)),iI 0,J (sT (aF l0) aM),ah r1,.ab 0 (ay (au r2)),J (sT (ba l4) bG),J (sT (ba l5) bG)]) λmy cL=>bif bQ my then aN [ak (gB cL 0),J (sT (aF (gC cL 1)) aM),ah (gR cL 2),.ab 0 (ay (au (gR cL 3))),aw l3,J (sT (ba (gC cL 4)) bG),J (sT (ba (gC cL 5)) bG)]else ae [J (sT (aF (gC cL 0)) aM),ah (gR cL 1),.ab 0 (ay (au (gR cL 2))),aw l3,J (sT (ba (gC cL 3)) bG),J (sT (ba (gC cL 4)) bG)]:aJ):=by kernel_rfl
def apt:S0 G N [iI i0,J l1,ah r2,.ab 0 r3,J l4,J l5,J l6]=(bif ln (gR l6 0)==0 then bif aV i0 (bx (ln (gR l5 19)- 1))then aN [aq,J (sT (aF l1) aM),ah r2,.ab 0 (ay (au r3)),J (sT (ba l4) bG),aw l5,nS l6]else bO (G Et [aa (gR l6 0),iI 1,iI (gI l1 3)]) λ_ eV=>bif !(gB eV 0)then aN [aq,J (sT (aF l1) aM),ah r2,.ab 0 (ay (au r3)),J (sT (ba l4) bG),aw l5,nS l6]else ae [J (sT (aF l1) aM),ah r2,.ab 0 (ay (au r3)),J (sT (ba l4) bG),aw l5,nS l6]else bO (G Et [aa (gR l6 0),iI 1,iI (gI l1 3)]) λ_ c7=>bif !(gB c7 0)then aN [aq,J (sT (aF l1) aM),ah r2,.ab 0 (ay (au r3)),J (sT (ba l4) bG),aw l5,nS l6]else ae [J (sT (aF l1) aM),ah r2,.ab 0 (ay (au r3)),J (sT (ba l4) bG),aw l5,nS l6]:aJ):=by kernel_rfl
def SX:DS G N (n+1) [aa r0,iI i1,iI i2,J l3,ah r4,.ab 0 r5,.ab 0 r6]=(bif aV i2 i1 then br i2 r0<|match az.dM (au r6) (iI (gI (aD r0 i2) 0))with|some m16=>(bif m16.toB then ae [aq,J (sT (aF l3) aM),ah r4,.ab 0 (ay (au r5)),.ab 0 (ay (au r6))]else DS G N n [aa r0,iI i1,cz i2,J (sT (aF l3) aM),ah r4,.ab 0 (ay (au r5)),.ab 0 (ay (az.iK (au r6) (iI (gI (aD r0 i2) 0)) (cu)))])|none=>(DS G N n [aa r0,iI i1,cz i2,J (sT (aF l3) aM),ah r4,.ab 0 (ay (au r5)),.ab 0 (ay (az.iK (au r6) (iI (gI (aD r0 i2) 0)) (cu)))])else aN [J (sT (aF l3) aM),ah r4,.ab 0 (ay (au r5)),.ab 0 (ay (au r6))]:aJ):=by kernel_rfl
def abv:DT G N (n+1) [cZ r0,iI i1,iI i2,J l3,ah r4,.ab 0 r5,J l6,J l7,.ab 0 r8]=(bif aV i2 i1 then br i2 r0<|bO (S0 G N [iI i2,J (sT (aF l3) aM),ah r4,.ab 0 (ay (au r5)),J (sT (ba l6) bG),aw l7,nS (aD r0 i2)]) λvv dh=>bif bQ vv then bO (DS G N N [aa (gR (gC dh 5) 0),iI (ln (gR (gC dh 5) 0)),iI 0,J (sT (aF (gC dh 0)) aM),ah (gR dh 1),.ab 0 (ay (au (gR dh 2))),.ab 0 (ay (au r8))]) λvu dj=>bif bQ vu then ae [ak (gB dj 0),J (sT (aF (gC dj 1)) aM),ah (gR dj 2),.ab 0 (ay (au (gR dj 3))),J (sT (ba (gC dh 3)) bG),aw (gC dh 4),.ab 0 (ay (au (gR dj 4)))]else bO (G jZ [J (sT (ba (gC dh 3)) bG),J (cO dD 1 (gC dh 5)),J (sT (aF (gC dj 0)) aM),ah (gR dj 1),.ab 0 (ay (au (gR dj 2)))]) λ_ fW=>bif !(gB fW 0)then ae [aq,J (sT (aF (gC fW 1)) aM),ah (gR fW 2),.ab 0 (ay (au (gR fW 3))),J (sT (ba (gC dh 3)) bG),aw (gC dh 4),.ab 0 (ay (au (gR dj 3)))]else DT G N n [cZ r0,iI i1,cz i2,J (sT (aF (gC fW 1)) aM),ah (gR fW 2),.ab 0 (ay (au (gR fW 3))),J (sT (ba (gC dh 3)) bG),aw (gC dh 4),.ab 0 (ay (au (gR dj 3)))]else ae [ak (gB dh 0),J (sT (aF (gC dh 1)) aM),ah (gR dh 2),.ab 0 (ay (au (gR dh 3))),J (sT (ba (gC dh 4)) bG),aw (gC dh 5),.ab 0 (ay (au r8))]else aN [J (sT (aF l3) aM),ah r4,.ab 0 (ay (au r5)),J (sT (ba l6) bG),aw l7,.ab 0 (ay (au r8))]:aJ):=by kernel_rfl
def as7:ca CX EE G N Hy [J l0,J l1,J l2,ah r3,.ab 0 r4]=(bO (TN G N [J (sT (aF l2) aM),ah r3,.ab 0 (ay (au r4)),J (sT (ba l0) bG),aw l1]) λq2 o2=>bif bQ q2 then bO (Ty G N [J (sT (aF (gC o2 0)) aM),ah (gR o2 1),.ab 0 (ay (au (gR o2 2))),J (sT (ba (gC o2 3)) bG),aw (gC o2 4)]) λ_ o5=>bO (G D4 [J (sT (ba (gC o5 3)) bG),J (sT (aF (gC o5 0)) aM),ah (gR o5 1),.ab 0 (ay (au (gR o5 2)))]) λ_ o6=>bO (G D4 [J (sT (ba (gC o5 3)) bG),J (sT (aF (gC o6 1)) aM),ah (gR o6 2),.ab 0 (ay (au (gR o6 3)))]) λ_ o7=>bO (Tl G N [J (sT (aF (gC o7 1)) aM),ah (gR o7 2),.ab 0 (ay (au (gR o7 3))),aw (gC o5 4),J (sT (ba (gC o6 0)) [(0,.ptr 0 0 0),(7,cu)]),J (sT (ba (gC o7 0)) [(0,.ptr 0 0 0),(8,cu)])]) λqH cP=>bif bQ qH then aP (aV 0 (ln (gR (gC cP 3) 17)))<|bO (G jZ [J (sT (ba (gC o5 3)) [(0,.ptr 0 0 0),(10,iI (-1))]),aw (gA (gR (gC cP 3) 17) 0),J (sT (aF (gC cP 0)) aM),ah (gR cP 1),.ab 0 (ay (au (gR cP 2)))]) λ_ dc=>bif !(gB dc 0)then ae [aq,J (sT (aF (gC dc 1)) aM),ah (gR dc 2),.ab 0 (ay (au (gR dc 3)))]else bO (DT G N N [cZ (gR (gC cP 3) 19),iI (ln (gR (gC cP 3) 19)),iI 0,J (sT (aF (gC dc 1)) aM),ah (gR dc 2),.ab 0 (ay (au (gR dc 3))),J (sT (ba (gC o5 3)) [(0,.ptr 0 0 0),(9,cu),(10,iI (-1))]),aw (gC cP 3),.ab 0 (ay (([]:List (AV×AV))))]) λDi gZ=>bif bQ Di then ae [ak (gB gZ 0),J (sT (aF (gC gZ 1)) aM),ah (gR gZ 2),.ab 0 (ay (au (gR gZ 3)))]else ae [cu,J (sT (aF (gC gZ 0)) aM),ah (gR gZ 1),.ab 0 (ay (au (gR gZ 2)))]else ae [ak (gB cP 0),J (sT (aF (gC cP 1)) aM),ah (gR cP 2),.ab 0 (ay (au (gR cP 3)))]else ae [ak (gB o2 0),J (sT (aF (gC o2 1)) aM),ah (gR o2 2),.ab 0 (ay (au (gR o2 3)))]:aJ):=by kernel_rfl
end
noncomputable section
variable {G:Nat->bp->Option UO} {N n:Nat} {i0 i1 i2:Int} {l0 l1 l2 l3 l4 l5 l6:bp} {r0 r1 r2 r3 r4 r5 r6 r7:aZ}
def aqP:Tx G N [J l0,ah r1,.ab 0 r2,J l3]=(bif aV (ln (gR l3 20)) 1 then aN [aq,J (sT (aF l0) aM),ah r1,.ab 0 (ay (au r2)),aw l3]else bif aV 16 (ln (gR l3 20))then aN [aq,J (sT (aF l0) aM),ah r1,.ab 0 (ay (au r2)),aw l3]else bif !(gB l3 9)then aP (aV 0 (ln (gR l3 17)))<|bO (G uG [aw (gA (gR l3 17) 0)]) λ_ o1=>bif !(gB o1 0)then aN [aq,J (sT (aF l0) aM),ah r1,.ab 0 (ay (au r2)),aw l3]else ae [J (sT (aF l0) aM),ah r1,.ab 0 (ay (au r2)),aw l3]else ae [J (sT (aF l0) aM),ah r1,.ab 0 (ay (au r2)),aw l3]:aJ):=by kernel_rfl
def apj:SY G N [bE i0,J l1,ah r2,.ab 0 r3]=(bif i0==2 then ae [cu,J (sT (aF l1) aM),ah r2,.ab 0 (ay (au r3))]else ae [ak (i0==3),J (sT (aF l1) aM),ah r2,.ab 0 (ay (au r3))]:aJ):=by kernel_rfl
def aps:A6 G N [bE i0,J l1,ah r2,.ab 0 r3,J l4,J l5,J l6]=(bif i0==1 then bif aV 0 (ln (gR l5 11))then aN [aq,J (sT (aF l1) aM),ah r2,.ab 0 (ay (au r3)),J (sT (ba l4) bG),ma l5,J (sT (ba l6) bG)]else bO (G My [J (sT (ba l4) bG),iI (gI l5 10),J (sT (aF l1) aM),ah r2,.ab 0 (ay (au r3))]) λ_ o5=>bif !(gB o5 0)then aN [aq,J (sT (aF (gC o5 1)) aM),ah (gR o5 2),.ab 0 (ay (au (gR o5 3))),J (sT (ba l4) bG),ma l5,J (sT (ba l6) bG)]else bO (G LV [J (sT (ba l4) bG),iI (gI l5 10),J (sT (aF (gC o5 1)) aM),ah (gR o5 2),.ab 0 (ay (au (gR o5 3)))]) λ_ o6=>ae [bE i0,J (sT (aF (gC o6 1)) aM),ah (gR o6 2),.ab 0 (ay (au (gR o6 3))),J (sT (ba l4) bG),ma l5,J (sT (ba (gC o6 0)) [(0,.ptr 0 0 0),(4,aa (gR o6 4))])]else bO (SY G N [bE i0,J (sT (aF l1) aM),ah r2,.ab 0 (ay (au r3))]) λ_ o7=>bif gB o7 0 then bif gI l5 10 != 0 then aN [aq,J (sT (aF (gC o7 1)) aM),ah (gR o7 2),.ab 0 (ay (au (gR o7 3))),J (sT (ba l4) bG),ma l5,J (sT (ba l6) bG)]else bif ln (gR l5 11) != 1 then aN [aq,J (sT (aF (gC o7 1)) aM),ah (gR o7 2),.ab 0 (ay (au (gR o7 3))),J (sT (ba l4) bG),ma l5,J (sT (ba l6) bG)]else aP (aV 0 (ln (gR l5 11)))<|bO (G Bc [J (sT (ba l4) bG),bR (gA (gR l5 11) 0),J (sT (aF (gC o7 1)) aM),ah (gR o7 2),.ab 0 (ay (au (gR o7 3)))]) λ_ o8=>bif !(gB o8 0)then aN [aq,J (sT (aF (gC o8 1)) aM),ah (gR o8 2),.ab 0 (ay (au (gR o8 3))),J (sT (ba l4) bG),ma l5,J (sT (ba l6) bG)]else bO (G uG [J (cO dD 12 l5)]) λ_ o9=>bif !(gB o9 0)then aN [aq,J (sT (aF (gC o8 1)) aM),ah (gR o8 2),.ab 0 (ay (au (gR o8 3))),J (sT (ba l4) bG),ma l5,J (sT (ba l6) bG)]else ae [bE 2,J (sT (aF (gC o8 1)) aM),ah (gR o8 2),.ab 0 (ay (au (gR o8 3))),J (sT (ba l4) bG),ma l5,J (sT (ba l6) bG)]else bif i0==4 then bif gI l5 10 != 0 then aN [aq,J (sT (aF (gC o7 1)) aM),ah (gR o7 2),.ab 0 (ay (au (gR o7 3))),J (sT (ba l4) bG),ma l5,J (sT (ba l6) bG)]else bif aV 0 (ln (gR l5 11))then aN [aq,J (sT (aF (gC o7 1)) aM),ah (gR o7 2),.ab 0 (ay (au (gR o7 3))),J (sT (ba l4) bG),ma l5,J (sT (ba l6) bG)]else bO (G uG [J (cO dD 12 l5)]) λ_ cL=>bif !(gB cL 0)then aN [aq,J (sT (aF (gC o7 1)) aM),ah (gR o7 2),.ab 0 (ay (au (gR o7 3))),J (sT (ba l4) bG),ma l5,J (sT (ba l6) bG)]else bO (G uG [J (cO dD 33 l5)]) λ_ cP=>bif !(gB cP 0)then aN [aq,J (sT (aF (gC o7 1)) aM),ah (gR o7 2),.ab 0 (ay (au (gR o7 3))),J (sT (ba l4) bG),ma l5,J (sT (ba l6) bG)]else ae [bE i0,J (sT (aF (gC o7 1)) aM),ah (gR o7 2),.ab 0 (ay (au (gR o7 3))),J (sT (ba l4) bG),ma l5,J (sT (ba l6) bG)]else aN [aq,J (sT (aF (gC o7 1)) aM),ah (gR o7 2),.ab 0 (ay (au (gR o7 3))),J (sT (ba l4) bG),ma l5,J (sT (ba l6) bG)]:aJ):=by kernel_rfl
def abx:xl G N (n+1) [cQ r0,iI i1,iI i2,J l3,ah r4,.ab 0 r5,J l6,.ab 0 r7]=(bif aV i2 i1 then br i2 r0<|bO (G Hl [J (sT (ba l6) bG),J (cO Bx 1 (aD r0 i2)),J (sT (aF l3) aM),ah r4,.ab 0 (ay (au r5))]) λ_ o4=>bif !(gB o4 0)then ae [aq,J (sT (aF (gC o4 1)) aM),ah (gR o4 2),.ab 0 (ay (au (gR o4 3))),J (sT (ba l6) bG),.ab 0 (ay (au r7))]else bO (A6 G N [bE (gI (aD r0 i2) 0),J (sT (aF (gC o4 1)) aM),ah (gR o4 2),.ab 0 (ay (au (gR o4 3))),J (sT (ba l6) bG),ma (aD r0 i2),J (sT (ba l6) bG)]) λpz dc=>bif bQ pz then match az.dM (au r7) (bE (gI dc 0))with|some Dn=>(bO (G jZ [J (sT (ba (gC dc 6)) bG),J (cO dD 12 (gC dc 5)),J (sT (aF (gC dc 1)) aM),ah (gR dc 2),.ab 0 (ay (au (gR dc 3)))]) λ_ c7=>bif !(gB c7 0)then ae [aq,J (sT (aF (gC c7 1)) aM),ah (gR c7 2),.ab 0 (ay (au (gR c7 3))),J (sT (ba (gC dc 4)) bG),.ab 0 (ay (az.iK (au r7) (bE (gI dc 0)) (iI (bx (Dn.toI+1)))))]else bO (G jZ [J (sT (ba (gC dc 4)) bG),J (cO dD 33 (gC dc 5)),J (sT (aF (gC c7 1)) aM),ah (gR c7 2),.ab 0 (ay (au (gR c7 3)))]) λ_ dh=>bif !(gB dh 0)then ae [aq,J (sT (aF (gC dh 1)) aM),ah (gR dh 2),.ab 0 (ay (au (gR dh 3))),J (sT (ba (gC dc 4)) bG),.ab 0 (ay (az.iK (au r7) (bE (gI dc 0)) (iI (bx (Dn.toI+1)))))]else xl G N n [cQ r0,iI i1,cz i2,J (sT (aF (gC dh 1)) aM),ah (gR dh 2),.ab 0 (ay (au (gR dh 3))),J (sT (ba (gC dc 4)) bG),.ab 0 (ay (az.iK (au r7) (bE (gI dc 0)) (iI (bx (Dn.toI+1)))))])|none=>(bO (G jZ [J (sT (ba (gC dc 6)) bG),J (cO dD 12 (gC dc 5)),J (sT (aF (gC dc 1)) aM),ah (gR dc 2),.ab 0 (ay (au (gR dc 3)))]) λ_ fI=>bif !(gB fI 0)then ae [aq,J (sT (aF (gC fI 1)) aM),ah (gR fI 2),.ab 0 (ay (au (gR fI 3))),J (sT (ba (gC dc 4)) bG),.ab 0 (ay (az.iK (au r7) (bE (gI dc 0)) (iI 1)))]else bO (G jZ [J (sT (ba (gC dc 4)) bG),J (cO dD 33 (gC dc 5)),J (sT (aF (gC fI 1)) aM),ah (gR fI 2),.ab 0 (ay (au (gR fI 3)))]) λ_ dj=>bif !(gB dj 0)then ae [aq,J (sT (aF (gC dj 1)) aM),ah (gR dj 2),.ab 0 (ay (au (gR dj 3))),J (sT (ba (gC dc 4)) bG),.ab 0 (ay (az.iK (au r7) (bE (gI dc 0)) (iI 1)))]else xl G N n [cQ r0,iI i1,cz i2,J (sT (aF (gC dj 1)) aM),ah (gR dj 2),.ab 0 (ay (au (gR dj 3))),J (sT (ba (gC dc 4)) bG),.ab 0 (ay (az.iK (au r7) (bE (gI dc 0)) (iI 1)))])else ae [ak (gB dc 0),J (sT (aF (gC dc 1)) aM),ah (gR dc 2),.ab 0 (ay (au (gR dc 3))),J (sT (ba (gC dc 4)) bG),.ab 0 (ay (au r7))]else aN [J (sT (aF l3) aM),ah r4,.ab 0 (ay (au r5)),J (sT (ba l6) bG),.ab 0 (ay (au r7))]:aJ):=by kernel_rfl
def apZ:LU G N [iI i0,J l1,ah r2,.ab 0 r3,.ab 0 r4]=(match az.dM (au r4) (bE 2)with|some m20=>(bif aV 0 (m20.toI)then ae [cz i0,J (sT (aF l1) aM),ah r2,.ab 0 (ay (au r3)),.ab 0 (ay (au r4))]else ae [iI i0,J (sT (aF l1) aM),ah r2,.ab 0 (ay (au r3)),.ab 0 (ay (au r4))])|none=>(ae [iI i0,J (sT (aF l1) aM),ah r2,.ab 0 (ay (au r3)),.ab 0 (ay (au r4))]):aJ):=by kernel_rfl
def asj:ca CX EE G N Ht [J l0,J l1,J l2,ah r3,.ab 0 r4]=(bO (Tx G N [J (sT (aF l2) aM),ah r3,.ab 0 (ay (au r4)),aw l1]) λq2 o2=>bif bQ q2 then aP (aV 0 (ln (gR (gC o2 3) 17)))<|bO (G jZ [J (sT (ba l0) [(0,.ptr 0 0 0),(10,iI (-1))]),aw (gA (gR (gC o2 3) 17) 0),J (sT (aF (gC o2 0)) aM),ah (gR o2 1),.ab 0 (ay (au (gR o2 2)))]) λ_ o3=>bif !(gB o3 0)then ae [aq,J (sT (aF (gC o3 1)) aM),ah (gR o3 2),.ab 0 (ay (au (gR o3 3)))]else bO (xl G N N [cQ (gR (gC o2 3) 20),iI (ln (gR (gC o2 3) 20)),iI 0,J (sT (aF (gC o3 1)) aM),ah (gR o3 2),.ab 0 (ay (au (gR o3 3))),J (sT (ba l0) [(0,.ptr 0 0 0),(10,iI (-1))]),.ab 0 (ay (([]:List (AV×AV))))]) λKE fW=>bif bQ KE then ae [ak (gB fW 0),J (sT (aF (gC fW 1)) aM),ah (gR fW 2),.ab 0 (ay (au (gR fW 3)))]else match az.dM (au (gR fW 4)) (bE 4)with|some m19=>(bO (LU G N [iI m19.toI,J (sT (aF (gC fW 0)) aM),ah (gR fW 1),.ab 0 (ay (au (gR fW 2))),.ab 0 (ay (au (gR fW 4)))]) λ_ iP=>bif gB (gC o2 3) 9 then match az.dM (au (gR iP 4)) (bE 1)with|some KI=>(bif aV 0 (KI.toI)then ae [ak (ck (bx (gI iP 0+1)) 1),J (sT (aF (gC iP 1)) aM),ah (gR iP 2),.ab 0 (ay (au (gR iP 3)))]else ae [aq,J (sT (aF (gC iP 1)) aM),ah (gR iP 2),.ab 0 (ay (au (gR iP 3)))])|none=>(ae [aq,J (sT (aF (gC iP 1)) aM),ah (gR iP 2),.ab 0 (ay (au (gR iP 3)))])else match az.dM (au (gR iP 4)) (bE 1)with|some KH=>(bif aV 0 (KH.toI)then ae [ak (ck (gI iP 0) 1),J (sT (aF (gC iP 1)) aM),ah (gR iP 2),.ab 0 (ay (au (gR iP 3)))]else ae [aq,J (sT (aF (gC iP 1)) aM),ah (gR iP 2),.ab 0 (ay (au (gR iP 3)))])|none=>(ae [aq,J (sT (aF (gC iP 1)) aM),ah (gR iP 2),.ab 0 (ay (au (gR iP 3)))]))|none=>(bO (LU G N [iI 0,J (sT (aF (gC fW 0)) aM),ah (gR fW 1),.ab 0 (ay (au (gR fW 2))),.ab 0 (ay (au (gR fW 4)))]) λ_ jk=>bif gB (gC o2 3) 9 then match az.dM (au (gR jk 4)) (bE 1)with|some m25=>(bif aV 0 (m25.toI)then ae [ak (ck (bx (gI jk 0+1)) 1),J (sT (aF (gC jk 1)) aM),ah (gR jk 2),.ab 0 (ay (au (gR jk 3)))]else ae [aq,J (sT (aF (gC jk 1)) aM),ah (gR jk 2),.ab 0 (ay (au (gR jk 3)))])|none=>(ae [aq,J (sT (aF (gC jk 1)) aM),ah (gR jk 2),.ab 0 (ay (au (gR jk 3)))])else match az.dM (au (gR jk 4)) (bE 1)with|some m26=>(bif aV 0 (m26.toI)then ae [ak (ck (gI jk 0) 1),J (sT (aF (gC jk 1)) aM),ah (gR jk 2),.ab 0 (ay (au (gR jk 3)))]else ae [aq,J (sT (aF (gC jk 1)) aM),ah (gR jk 2),.ab 0 (ay (au (gR jk 3)))])|none=>(ae [aq,J (sT (aF (gC jk 1)) aM),ah (gR jk 2),.ab 0 (ay (au (gR jk 3)))]))else ae [ak (gB o2 0),J (sT (aF (gC o2 1)) aM),ah (gR o2 2),.ab 0 (ay (au (gR o2 3)))]:aJ):=by kernel_rfl
def as1:ca CX EE G N Mi [aa r0]=(bif r0.isEmpty then none else aP (w5 r0)<|ae [aa ((([]:aZ))++r0)]:aJ):=by kernel_rfl
def aqU:ca CX EE G N DY []=(ae [aa cy]:aJ):=by kernel_rfl
def aqT:ca CX EE G N DX []=(ae [aa cy]:aJ):=by kernel_rfl
def azM:ca CX EE G N BE [aa r0,iI i1]=(bO (Ah tP (G DY) (G DX) (G Mi) [aa r0]) λ_ o1=>aP (lu (((gR o1 0).length +1)*8) 140737488355328)<|ae [aa ((gR o1 0)++(([[iI i1]]:aZ)))]:aJ):=by kernel_rfl
def aqn:ca CX EE G N LV [J l0,iI i1,J l2,ah r3,.ab 0 r4]=(bO (G D4 [J (sT (ba l0) bG),J (sT (aF l2) aM),ah r3,.ab 0 (ay (au r4))]) λ_ o1=>bO (G BE [aa (gR (gC o1 0) 4),iI i1]) λ_ o2=>ae [J (sT (aze (gC o1 0)) [(0,.ptr 0 0 0),(4,.aA 3),(10,iI i1)]),J (sT (aF (gC o1 1)) aM),ah (gR o1 2),.ab 0 (ay (au (gR o1 3))),aa (gR o2 0)]:aJ):=by kernel_rfl
def asm:ca CX EE G N Me [J l0,iI i1,J l2,ah r3,.ab 0 r4]=(bO (G D4 [J (sT (ba l0) bG),J (sT (aF l2) aM),ah r3,.ab 0 (ay (au r4))]) λ_ o1=>bO (G BE [aa (gR (gC o1 0) 5),iI i1]) λ_ o2=>ae [J (sT (azf (gC o1 0)) aFk),J (sT (aF (gC o1 1)) aM),ah (gR o1 2),.ab 0 (ay (au (gR o1 3))),aa (gR o2 0)]:aJ):=by kernel_rfl
def ash:ca CX EE G N TT [J l0,J l1,J l2,ah r3,.ab 0 r4]=(bO (G jZ [J (sT (ba l1) bG),aw l0,J (sT (aF l2) aM),ah r3,.ab 0 (ay (au r4))]) λ_ o1=>ae [ak (!(gB o1 0)),J (sT (ba l1) gf),J (sT (aF (gC o1 1)) fZ),ah (gR o1 2),.ab 0 (ay (au (gR o1 3)))]:aJ):=by kernel_rfl
def SB:LB G N (n+1) [bD r0,iI i1,iI i2,J l3,J l4,ah r5,.ab 0 r6]=(bif aV i2 i1 then br i2 r0<|bO (G TT [aw (aD r0 i2),J (sT (ba l3) gf),J (sT (aF l4) fZ),ah r5,.ab 0 (ay (au r6))]) λ_ o1=>bif gB o1 0 then ae [iI i2,J (sT (ba (gC o1 1)) gf),J (sT (aF (gC o1 2)) fZ),ah (gR o1 3),.ab 0 (ay (au (gR o1 4)))]else LB G N n [bD r0,iI i1,cz i2,J (sT (ba (gC o1 1)) gf),J (sT (aF (gC o1 2)) fZ),ah (gR o1 3),.ab 0 (ay (au (gR o1 4)))]else aN [J (sT (ba l3) gf),J (sT (aF l4) fZ),ah r5,.ab 0 (ay (au r6))]:aJ):=by kernel_rfl
def aaZ:ca CX EE G N LH [bD r0,J l1,J l2,ah r3,.ab 0 r4]=(bO (LB G N N [bD r0,iI (ln r0),iI 0,J (sT (ba l1) gf),J (sT (aF l2) fZ),ah r3,.ab 0 (ay (au r4))]) λq2 o2=>bif bQ q2 then ae [iI (gI o2 0),J (sT (ba (gC o2 1)) gf),J (sT (aF (gC o2 2)) fZ),ah (gR o2 3),.ab 0 (ay (au (gR o2 4)))]else ae [iI (-1),J (sT (ba (gC o2 0)) gf),J (sT (aF (gC o2 1)) fZ),ah (gR o2 2),.ab 0 (ay (au (gR o2 3)))]:aJ):=by kernel_rfl
def aaU:ca CX EE G N SC [bD r0,J l1,J l2,ah r3,.ab 0 r4]=(bO (G LH [bD r0,J (sT (ba l1) gf),J (sT (aF l2) fZ),ah r3,.ab 0 (ay (au r4))]) λ_ o1=>ae [ak (ck 0 (gI o1 0)),J (sT (ba (gC o1 1)) gf),J (sT (aF (gC o1 2)) fZ),ah (gR o1 3),.ab 0 (ay (au (gR o1 4)))]:aJ):=by kernel_rfl
def ari:Hq G N [J l0,ah r1,.ab 0 r2,J l3,J l4]=(bif aV (gI l0 7) 0 then aN [aq,J (sT (aF l0) aM),ah r1,.ab 0 (ay (au r2)),J (sT (ba l3) bG),aw l4]else bif ck 64 (gI l3 11)then aN [aq,J (sT (aF l0) aM),ah r1,.ab 0 (ay (au r2)),J (sT (ba l3) bG),aw l4]else bO (G NI [aw l4]) λ_ o1=>bif !(gB o1 0)then aN [aq,J (sT (aF l0) aM),ah r1,.ab 0 (ay (au r2)),J (sT (ba l3) bG),aw l4]else bO (G TU [J (sT (ba l3) bG),aw l4,J (sT (aF l0) aM),ah r1,.ab 0 (ay (au r2))]) λ_ o2=>bif !(gB o2 0)then aN [aq,J (sT (aF (gC o2 1)) aM),ah (gR o2 2),.ab 0 (ay (au (gR o2 3))),J (sT (ba l3) bG),aw l4]else bO (G Mj [J (sT (ba l3) bG),aw l4,J (sT (aF (gC o2 1)) aM),ah (gR o2 2),.ab 0 (ay (au (gR o2 3)))]) λ_ o3=>bif !(gB o3 0)then aN [aq,J (sT (aF (gC o3 1)) aM),ah (gR o3 2),.ab 0 (ay (au (gR o3 3))),J (sT (ba l3) bG),aw l4]else ae [J (sT (aF (gC o3 1)) aM),ah (gR o3 2),.ab 0 (ay (au (gR o3 3))),J (sT (ba l3) bG),aw l4]:aJ):=by kernel_rfl
end
noncomputable section
variable {G:Nat->bp->Option UO} {N n:Nat} {i0 i1 i2:Int} {l0 l1 l2 l3 l4 l5:bp} {r0 r1 r2 r3 r4 r5 r6:aZ}
def LX:vV G N [J l0,ah r1,.ab 0 r2,J l3,J l4]=(bif gI l4 0==9 then bO (G Hy [J (sT (ba l3) bG),aw l4,J (sT (aF l0) aM),ah r1,.ab 0 (ay (au r2))]) λ_ o5=>aN [ak (gB o5 0),J (sT (aF (gC o5 1)) aM),ah (gR o5 2),.ab 0 (ay (au (gR o5 3))),J (sT (ba l3) bG),aw l4]else bif gI l4 0==19 then bO (G Ht [J (sT (ba l3) bG),aw l4,J (sT (aF l0) aM),ah r1,.ab 0 (ay (au r2))]) λ_ o6=>aN [ak (gB o6 0),J (sT (aF (gC o6 1)) aM),ah (gR o6 2),.ab 0 (ay (au (gR o6 3))),J (sT (ba l3) bG),aw l4]else bif gI l4 0==18 then bO (G LV [J (sT (ba l3) bG),iI (gI l4 5),J (sT (aF l0) aM),ah r1,.ab 0 (ay (au r2))]) λ_ o7=>aP (aV 0 (ln (gR l4 17)))<|bO (G jZ [J (sT (ba (gC o7 0)) [(0,.ptr 0 0 0),(4,aa (gR o7 4))]),aw (gA (gR l4 17) 0),J (sT (aF (gC o7 1)) aM),ah (gR o7 2),.ab 0 (ay (au (gR o7 3)))]) λ_ o8=>bif gB o8 0 then aP (aV 1 (ln (gR l4 17)))<|bO (G jZ [J (sT (ba l3) [(0,.ptr 0 0 0),(10,iI (-1))]),aw (gA (gR l4 17) 1),J (sT (aF (gC o8 1)) aM),ah (gR o8 2),.ab 0 (ay (au (gR o8 3)))]) λ_ o9=>aN [ak (gB o9 0),J (sT (aF (gC o9 1)) aM),ah (gR o9 2),.ab 0 (ay (au (gR o9 3))),J (sT (ba l3) bG),aw l4]else aN [aq,J (sT (aF (gC o8 1)) aM),ah (gR o8 2),.ab 0 (ay (au (gR o8 3))),J (sT (ba l3) bG),aw l4]else bif gI l4 0==20 then bO (G Me [J (sT (ba l3) bG),iI (gI l4 4),J (sT (aF l0) aM),ah r1,.ab 0 (ay (au r2))]) λ_ cL=>aP (aV 0 (ln (gR l4 17)))<|bO (G jZ [J (sT (ba (gC cL 0)) [(0,.ptr 0 0 0),(5,aa (gR cL 4))]),aw (gA (gR l4 17) 0),J (sT (aF (gC cL 1)) aM),ah (gR cL 2),.ab 0 (ay (au (gR cL 3)))]) λ_ cP=>aN [ak (gB cP 0),J (sT (aF (gC cP 1)) aM),ah (gR cP 2),.ab 0 (ay (au (gR cP 3))),J (sT (ba l3) bG),aw l4]else bif gI l4 0==17 then bO (G Me [J (sT (ba l3) bG),iI (gI l4 4),J (sT (aF l0) aM),ah r1,.ab 0 (ay (au r2))]) λ_ dc=>aP (aV 0 (ln (gR l4 17)))<|bO (G jZ [J (sT (ba (gC dc 0)) [(0,.ptr 0 0 0),(5,aa (gR dc 4))]),aw (gA (gR l4 17) 0),J (sT (aF (gC dc 1)) aM),ah (gR dc 2),.ab 0 (ay (au (gR dc 3)))]) λ_ eV=>bif gB eV 0 then aP (aV 1 (ln (gR l4 17)))<|bO (G jZ [J (sT (ba l3) [(0,.ptr 0 0 0),(10,iI (-1))]),aw (gA (gR l4 17) 1),J (sT (aF (gC eV 1)) aM),ah (gR eV 2),.ab 0 (ay (au (gR eV 3)))]) λ_ c7=>bif gB c7 0 then aP (aV 2 (ln (gR l4 17)))<|bO (G jZ [J (sT (ba l3) [(0,.ptr 0 0 0),(10,iI (-1))]),aw (gA (gR l4 17) 2),J (sT (aF (gC c7 1)) aM),ah (gR c7 2),.ab 0 (ay (au (gR c7 3)))]) λ_ dh=>aN [ak (gB dh 0),J (sT (aF (gC dh 1)) aM),ah (gR dh 2),.ab 0 (ay (au (gR dh 3))),J (sT (ba l3) bG),aw l4]else aN [aq,J (sT (aF (gC c7 1)) aM),ah (gR c7 2),.ab 0 (ay (au (gR c7 3))),J (sT (ba l3) bG),aw l4]else aN [aq,J (sT (aF (gC eV 1)) aM),ah (gR eV 2),.ab 0 (ay (au (gR eV 3))),J (sT (ba l3) bG),aw l4]else bif gI l4 0==16 then ae [J (sT (aF l0) aM),ah r1,.ab 0 (ay (au r2)),J (sT (ba l3) [(0,.ptr 0 0 0),(10,iI (-1))]),aw l4]else bif gI l4 0==7 then bO (G BE [aa (gR l3 2),iI (gI l4 1)]) λ_ fI=>bO (G BE [aa (gR l3 3),iI (gI l4 1)]) λ_ dj=>ae [J (sT (aF l0) aM),ah r1,.ab 0 (ay (au r2)),J (sT (ba l3) [(0,.ptr 0 0 0),(2,aa (gR fI 0)),(3,aa (gR dj 0))]),aw l4]else bif gI l4 0==6 then bO (G BE [aa (gR l3 6),iI (gI l4 2)]) λ_ fW=>ae [J (sT (aF l0) aM),ah r1,.ab 0 (ay (au r2)),J (sT (ba l3) [(0,.ptr 0 0 0),(6,aa (gR fW 0))]),aw l4]else ae [J (sT (aF l0) aM),ah r1,.ab 0 (ay (au r2)),J (sT (ba l3) bG),aw l4]:aJ):=by kernel_rfl
def at4:ca CX EE G N jZ [J l0,J l1,J l2,ah r3,.ab 0 r4]=(bO (Hq G N [J (sT (aF l2) [(6,.aA 1),(7,iI (bx (gI l2 7- 1))),(8,.mp 2)]),ah r3,.ab 0 (ay (au r4)),J (sT (ba l0) bG),aw l1]) λq4 o4=>bif bQ q4 then bO (vV G N [J (sT (aF (gC o4 0)) aM),ah (gR o4 1),.ab 0 (ay (au (gR o4 2))),J (sT (ba (gC o4 3)) [(0,.ptr 0 0 0),(11,iI (bx (gI (gC o4 3) 11+1)))]),aw (gC o4 4)]) λDi gZ=>bif bQ Di then bO (G SC [bD (gR (gC gZ 4) 17),J (sT (ba (gC gZ 3)) gf),J (sT (aF (gC gZ 0)) fZ),ah (gR gZ 1),.ab 0 (ay (au (gR gZ 2)))]) λ_ rG=>ae [ak (!(gB rG 0)),J (sT (aF (gC rG 2)) aM),ah (gR rG 3),.ab 0 (ay (au (gR rG 4)))]else ae [ak (gB gZ 0),J (sT (aF (gC gZ 1)) aM),ah (gR gZ 2),.ab 0 (ay (au (gR gZ 3)))]else ae [ak (gB o4 0),J (sT (aF (gC o4 1)) aM),ah (gR o4 2),.ab 0 (ay (au (gR o4 3)))]:aJ):=by kernel_rfl
def ayP:Wg G N [J l0]=(bO (G Vx [bJ (gR l0 0)]) λ_ o1=>bif !(gB o1 0)then aN [aq,bK l0]else bif aV (gI l0 1) 4 then aN [aq,bK l0]else bif aV 64 (gI l0 1)then aN [aq,bK l0]else bif aV (ln (gR l0 2)) 1 then aN [aq,bK l0]else bif aV 32 (ln (gR l0 2))then aN [aq,bK l0]else bif aV 32 (ln (gR l0 3))then aN [aq,bK l0]else aP (aV 0 (ln (gR l0 2)))<|bif aV 0 (ln (gR (gA (gR l0 2) 0) 1))then aN [aq,bK l0]else ae [bK l0]:aJ):=by kernel_rfl
def adW:H6 G N (n+1) [fq r0,iI i1,iI i2]=(bif aV i2 i1 then br i2 r0<|bif aV (gI (aD r0 i2) 0) 0 then bZ else bif aV 31 (gI (aD r0 i2) 0)then bZ else bif aV 8 (ln (gR (aD r0 i2) 1))then bZ else bif aV (gI (aD r0 i2) 23) 0 then bZ else bif aV 2147483647 (gI (aD r0 i2) 23)then bZ else H6 G N n [fq r0,iI i1,cz i2]else aN []:aJ):=by kernel_rfl
def adZ:Ny G N [J l0]=(bO (H6 G N N [fq (gR l0 2),iI (ln (gR l0 2)),iI 0]) λq3 o3=>bif bQ q3 then aN [ak (gB o3 0),bK l0]else ae [bK l0]:aJ):=by kernel_rfl
def at1:UM G N [J l0]=(bif aV (gI l0 0) 0 then aN [aq,lZ l0]else bif aV 31 (gI l0 0)then aN [aq,lZ l0]else bif aV 8 (ln (gR l0 2))then aN [aq,lZ l0]else ae [lZ l0]:aJ):=by kernel_rfl
def acw:Bj G N (n+1) [aT r0,iI i1,iI i2,J l3,J l4]=(bif aV i2 i1 then br i2 r0<|bO (G MI [J [bJ (gR l3 0),iI (ln (gR l4 2))],bR (aD r0 i2)]) λ_ o7=>bif !(gB o7 1)then ae [aq,bK l3,lZ l4]else bO (G qV [cG (gC o7 0)]) λ_ o8=>bif !(gB o8 0)then ae [aq,bK l3,lZ l4]else bO (G Ih [bJ (gR l3 0),aa (gR l4 1),bR (aD r0 i2)]) λ_ o9=>bif !(gB o9 0)then ae [aq,bK l3,lZ l4]else Bj G N n [aT r0,iI i1,cz i2,bK l3,lZ l4]else aN [bK l3,lZ l4]:aJ):=by kernel_rfl
def ac9:Eo G N (n+1) [nT r0,iI i1,iI i2,J l3]=(bif aV i2 i1 then br i2 r0<|bO (UM G N [lZ (aD r0 i2)]) λq6 o6=>bif bQ q6 then bO (Bj G N N [aT (gR (gC o6 0) 2),iI (ln (gR (gC o6 0) 2)),iI 0,bK l3,lZ (gC o6 0)]) λmy cL=>bif bQ my then ae [ak (gB cL 0),bK (gC cL 1)]else Eo G N n [nT r0,iI i1,cz i2,bK (gC cL 0)]else ae [ak (gB o6 0),bK l3]else aN [bK l3]:aJ):=by kernel_rfl
def adB:Nk G N [J l0]=(bO (Eo G N N [nT (gR l0 3),iI (ln (gR l0 3)),iI 0,bK l0]) λqH cP=>bif bQ qH then aN [ak (gB cP 0),bK (gC cP 1)]else ae [bK (gC cP 0)]:aJ):=by kernel_rfl
def ac8:En G N (n+1) [fq r0,iI i1,iI i2,J l3,.ab 0 r4,ah r5]=(bif aV i2 i1 then br i2 r0<|bO (G jZ [J [.ptr 0 0 0,iI i2,aa cy,aa cy,aa cy,aa cy,aa cy,aq,aq,aq,iI (-1),iI 0],J (cO dD 2 (aD r0 i2)),J (sT (aF l3) aM),ah r5,.ab 0 (ay (au r4))]) λ_ eV=>bif !(gB eV 0)then ae [aq,J (sT (aF (gC eV 1)) yf),.ab 0 (ay (au (gR eV 3))),ah (gR eV 2)]else En G N n [fq r0,iI i1,cz i2,J (sT (aF (gC eV 1)) yf),.ab 0 (ay (au (gR eV 3))),ah (gR eV 2)]else aN [J (sT (aF l3) yf),.ab 0 (ay (au r4)),ah r5]:aJ):=by kernel_rfl
def UT:Em G N (n+1) [iI i0,iI i1,J l2,.ab 0 r3,ah r4]=(bif aV i1 i0 then bif aV 0 i1 then match az.dM (au r3) (iI i1)with|some m15=>(bif m15.toI != 1 then ae [aq,J (sT (aF l2) yf),.ab 0 (ay (au r3)),ah r4]else Em G N n [iI i0,cz i1,J (sT (aF l2) yf),.ab 0 (ay (au r3)),ah r4])|none=>(ae [aq,J (sT (aF l2) yf),.ab 0 (ay (au r3)),ah r4])else Em G N n [iI i0,cz i1,J (sT (aF l2) yf),.ab 0 (ay (au r3)),ah r4]else aN [J (sT (aF l2) yf),.ab 0 (ay (au r3)),ah r4]:aJ):=by kernel_rfl
def Iq:ca CX EE G N tD [J l0]=(bO (Wg G N [bK l0]) λq2 o2=>bif bQ q2 then bO (Ny G N [bK (gC o2 0)]) λq4 o4=>bif bQ q4 then bO (G NJ [bK (gC o4 0)]) λ_ o5=>bif !(gB o5 0)then bZ else bO (Nk G N [bK (gC o4 0)]) λpz dc=>bif bQ pz then bO (En G N N [fq (gR (gC dc 0) 2),iI (ln (gR (gC dc 0) 2)),iI 0,J [bJ (gR (gC o4 0) 0),iI (-1),bJ (gR (gC o4 0) 0),iI (gI (gC o4 0) 1),fq (gR (gC o4 0) 2),nT (gR (gC o4 0) 3),.aA 2,iI 8192,.mp 1],.ab 0 (ay (([]:List (AV×AV)))),ah (gR o5 1)]) λvz c7=>bif bQ vz then ae [ak (gB c7 0)]else bO (Em G N N [iI (ln (gR (gC dc 0) 2)),iI 0,J (sT (aF (gC c7 0)) yf),.ab 0 (ay (au (gR c7 1))),ah (gR c7 2)]) λyK fI=>bif bQ yK then ae [ak (gB fI 0)]else c8 else ae [ak (gB dc 0)]else ae [ak (gB o4 0)]else ae [ak (gB o2 0)]:aJ):=by kernel_rfl
def ayf:ca CX EE G N VR [J l0]=(ae [aw l0]:aJ):=by kernel_rfl
def abP:L3 G N (n+1) [c5 r0,iI i1,iI i2,J l3,J l4,J l5,bD r6]=(bif aV i2 i1 then br i2 r0<|bO (G xw [aw (aD r0 i2),J [.aA 2],J [.du 35 [] [.ptr 0 0 0,.ptr 1 0 0]],bD r6]) λ_ o2=>bO (G xw [J (cO dD 21 (aD r0 i2)),J [.aA 2],J [.du 35 [] [.ptr 0 0 0,.ptr 1 0 0]],bD (gR o2 2)]) λ_ o3=>L3 G N n [c5 r0,iI i1,cz i2,J [.aA 4],J [.du 35 [] [.ptr 0 0 0,.ptr 1 0 0]],J [.ptr 1 0 0],bD (gR o3 2)]else ae [J [.aA 4],J [.du 35 [] [.ptr 0 0 0,.ptr 1 0 0]],J [.ptr 1 0 0],bD r6]:aJ):=by kernel_rfl
def aru:Mb G N [J l0,J l1,J l2,J l3,bD r4]=(bO (L3 G N N [c5 (gR l3 18),iI (ln (gR l3 18)),iI 0,J [.aA 4],J [.du 35 [] [.ptr 0 0 0,.ptr 1 0 0]],J [.ptr 1 0 0],bD r4]) λ_ o4=>ae [J [.aA 5],J [.du 35 [] [.ptr 0 0 0,.ptr 1 0 0]],J [.ptr 1 0 0],aw l3,bD (gR o4 3)]:aJ):=by kernel_rfl
def abO:L2 G N (n+1) [bD r0,iI i1,iI i2,J l3,J l4,J l5,bD r6]=(bif aV i2 i1 then br i2 r0<|bO (G xw [aw (aD r0 i2),J [.aA 2],J [.du 35 [] [.ptr 0 0 0,.ptr 1 0 0]],bD r6]) λ_ o6=>L2 G N n [bD r0,iI i1,cz i2,J [.aA 4],J [.du 35 [] [.ptr 0 0 0,.ptr 1 0 0]],J [.ptr 1 0 0],bD (gR o6 2)]else ae [J [.aA 4],J [.du 35 [] [.ptr 0 0 0,.ptr 1 0 0]],J [.ptr 1 0 0],bD r6]:aJ):=by kernel_rfl
def art:Ma G N [J l0,J l1,J l2,J l3,bD r4]=(bO (L2 G N N [bD (gR l3 17),iI (ln (gR l3 17)),iI 0,J [.aA 4],J [.du 35 [] [.ptr 0 0 0,.ptr 1 0 0]],J [.ptr 1 0 0],bD r4]) λ_ o7=>ae [J [.aA 5],J [.du 35 [] [.ptr 0 0 0,.ptr 1 0 0]],J [.ptr 1 0 0],aw l3,bD (gR o7 3)]:aJ):=by kernel_rfl
def abN:Ho G N (n+1) [cZ r0,iI i1,iI i2,J l3,J l4,J l5,bD r6]=(bif aV i2 i1 then br i2 r0<|bO (G xw [J (cO dD 1 (aD r0 i2)),J [.aA 2],J [.du 35 [] [.ptr 0 0 0,.ptr 1 0 0]],bD r6]) λ_ o9=>Ho G N n [cZ r0,iI i1,cz i2,J [.aA 4],J [.du 35 [] [.ptr 0 0 0,.ptr 1 0 0]],J [.ptr 1 0 0],bD (gR o9 2)]else ae [J [.aA 4],J [.du 35 [] [.ptr 0 0 0,.ptr 1 0 0]],J [.ptr 1 0 0],bD r6]:aJ):=by kernel_rfl
def abM:Hn G N (n+1) [cQ r0,iI i1,iI i2,J l3,J l4,J l5,bD r6]=(bif aV i2 i1 then br i2 r0<|bO (G xw [J (cO dD 12 (aD r0 i2)),J [.aA 2],J [.du 35 [] [.ptr 0 0 0,.ptr 1 0 0]],bD r6]) λ_ cP=>bO (G xw [J (cO dD 33 (aD r0 i2)),J [.aA 2],J [.du 35 [] [.ptr 0 0 0,.ptr 1 0 0]],bD (gR cP 2)]) λ_ dc=>Hn G N n [cQ r0,iI i1,cz i2,J [.aA 4],J [.du 35 [] [.ptr 0 0 0,.ptr 1 0 0]],J [.ptr 1 0 0],bD (gR dc 2)]else ae [J [.aA 4],J [.du 35 [] [.ptr 0 0 0,.ptr 1 0 0]],J [.ptr 1 0 0],bD r6]:aJ):=by kernel_rfl
def ay6:ca CX EE G N xw [J l0,J l1,J l2,bD r3]=(aP (lu ((r3.length+1)*272) 140737488355328)<|br (ln r3) (r3++(([Kv]:aZ)))<|aP (dw ((ln r3).toNat) ((r3++(([Kv]:aZ))).length))<|bO (G VR [aw l0]) λ_ o1=>bO (Mb G N [J [.aA 5],J [.du 35 [] [.ptr 0 0 0,.ptr 1 0 0]],J [.ptr 1 0 0],aw (gC o1 0),bD ((r3++(([Kv]:aZ))).set ((ln r3).toNat) (setAt (aD (r3++(([Kv]:aZ))) (ln r3)) 0 (dv l0)))]) λ_ o5=>bO (Ma G N [J [.aA 5],J [.du 35 [] [.ptr 0 0 0,.ptr 1 0 0]],J [.ptr 1 0 0],aw (gC o5 3),bD (gR o5 4)]) λ_ o8=>bO (Ho G N N [cZ (gR (gC o8 3) 19),iI (ln (gR (gC o8 3) 19)),iI 0,J [.aA 4],J [.du 35 [] [.ptr 0 0 0,.ptr 1 0 0]],J [.ptr 1 0 0],bD (gR o8 4)]) λ_ cL=>bO (Hn G N N [cQ (gR (gC o8 3) 20),iI (ln (gR (gC o8 3) 20)),iI 0,J [.aA 4],J [.du 35 [] [.ptr 0 0 0,.ptr 1 0 0]],J [.ptr 1 0 0],bD (gR cL 3)]) λ_ eV=>ae [J [.aA 3],J [.du 35 [] [.ptr 0 0 0,.ptr 1 0 0]],bD (gR eV 3)]:aJ):=by kernel_rfl
def adu:Nc G N (n+1) [fq r0,iI i1,iI i2,J l3,J l4,bD r5]=(bif aV i2 i1 then br i2 r0<|bO (G xw [J (cO dD 2 (aD r0 i2)),J [.aA 2],J [.du 35 [] [.ptr 0 0 0,.ptr 1 0 0]],bD r5]) λ_ o2=>Nc G N n [fq r0,iI i1,cz i2,J [.du 35 [] [.ptr 1 0 0,.ptr 0 0 0]],J [.aA 2],bD (gR o2 2)]else ae [J [.du 35 [] [.ptr 1 0 0,.ptr 0 0 0]],J [.aA 2],bD r5]:aJ):=by kernel_rfl
def aAj:ca CX EE G N WM [J l0]=(bO (G tD [bK l0]) λ_ o1=>bif !(gB o1 0)then ae [bD cy]else bO (Nc G N N [fq (gR l0 2),iI (ln (gR l0 2)),iI 0,J [.du 35 [] [.ptr 1 0 0,.ptr 0 0 0]],J [.aA 2],bD cy]) λ_ o3=>ae [bD (gR o3 2)]:aJ):=by kernel_rfl
def atX:UI G N [iI i0,J l1]=(bO (G Wn [bK l1]) λ_ o1=>bif gB o1 0 then aN [cu,bK l1]else bO (G tG [bK l1]) λ_ o2=>bif !(gB o2 0)then aN [cu,bK l1]else bif aV i0 0 then aN [cu,bK l1]else ae [bK l1]:aJ):=by kernel_rfl
def asY:Uq G N [iI i0,bD r1]=(bif ck (ln r1) i0 then aN [cu,bD r1]else bif aV 1000 (ln r1)then aN [cu,bD r1]else ae [bD r1]:aJ):=by kernel_rfl
def arh:L7 G N [J l0,J l1]=(bO (G tD [bK l0]) λ_ eV=>bif gB eV 0 then bO (G tD [bK l1]) λ_ c7=>bO (G tG [bK l1]) λ_ dh=>bif (gB c7 0)==(gB dh 0)then ae [cu,bK l0,bK l1]else ae [aq,bK l0,bK l1]else ae [aq,bK l0,bK l1]:aJ):=by kernel_rfl
def awp:ca CX EE G N Bt [J l0,iI i1]=(bO (UI G N [iI i1,bK l0]) λq3 o3=>bif bQ q3 then bO (G Xn [bK (gC o3 0)]) λ_ o4=>bO (Uq G N [iI i1,bD (gR o4 0)]) λq5 o5=>bif bQ q5 then br i1 (gR o5 0)<|aP (dw (i1.toNat) ((gR o5 0).length))<|bO (G mX [aw (aD (gR o5 0) i1),J rD]) λ_ o6=>bif gB o6 0 then c8 else br i1 (gR o5 0)<|aP (dw (i1.toNat) ((gR o5 0).length))<|bO (G M4 [bK (gC o3 0),iI i1,J [bE 3,iI 0,iI 0,iI 0,iI 0,iI 0,aq,aq,aq,aq,aq,bE 0,aT ([]),aT ([]),bH ([]),bH ([]),aa cy,bD (([dv (aD (gR o5 0) i1)]:aZ)),c5 ([]),cZ ([]),cQ ([])]]) λ_ o7=>br i1 (gR o5 0)<|aP (dw (i1.toNat) ((gR o5 0).length))<|bO (G M4 [bK (gC o3 0),iI i1,J [bE 7,iI 8000,iI 0,iI 0,iI 0,iI 0,aq,aq,aq,aq,aq,bE 0,aT ([]),aT ([]),bH ([]),bH ([]),aa cy,bD (([dv (aD (gR o5 0) i1)]:aZ)),c5 ([]),cZ ([]),cQ ([])]]) λ_ o8=>bO (G tD [J (sT (uE (gC o7 0)) [(2,fq (gR o7 1))])]) λ_ o9=>bif gB o9 0 then bO (G WM [J (sT (uE (gC o7 0)) [(2,fq (gR o7 1))])]) λ_ cL=>bif ln (gR cL 0) != bx (ln (gR o5 0)+1)then bZ else bO (G tG [J (sT (uE (gC o7 0)) [(2,fq (gR o7 1))])]) λ_ cP=>bif !(gB cP 0)then bO (G tD [J (sT (uE (gC o7 0)) [(2,fq (gR o7 1))])]) λ_ dc=>bif !(gB dc 0)then c8 else bZ else bO (L7 G N [J (sT (uE (gC o7 0)) [(2,fq (gR o7 1))]),J (sT (uE (gC o8 0)) [(2,fq (gR o8 1))])]) λ_ fI=>ae [ak (gB fI 0)]else bO (G tG [J (sT (uE (gC o7 0)) [(2,fq (gR o7 1))])]) λ_ dj=>bif !(gB dj 0)then bO (G tD [J (sT (uE (gC o7 0)) [(2,fq (gR o7 1))])]) λ_ fW=>bif !(gB fW 0)then c8 else bZ else bO (L7 G N [J (sT (uE (gC o7 0)) [(2,fq (gR o7 1))]),J (sT (uE (gC o8 0)) [(2,fq (gR o8 1))])]) λ_ gZ=>ae [ak (gB gZ 0)]else ae [ak (gB o5 0)]else ae [ak (gB o3 0)]:aJ):=by kernel_rfl
end
noncomputable section
variable {G:Nat->bp->Option UO} {N n:Nat} {i1:Int} {l0:bp}
end
end Go.Proofs.YtomkobcipaligaaGreatDoor
namespace Go.az
def YK{p:Prop}(h:p:=by
 rw [fM hi,ix hi hl];exact av (λhc=>af (h1 hc)) h2):p:=h
def P2{p:Prop}(h:p:=by simp only [sy,hc,hd,he,hf,cg,cC]):p:=h
def aim{p:Prop}(h:p:=by
 unfold kM;cases(List.range l.length).any (sy l lo hi)<;>exact aL):p:=h
def ah9{p:Prop}(h:p:=by rw [zi]at he;simp only [sy,hc,hd,he,cC]):p:=h
def ahF{p:Prop}(h:p:=by simp only [sy,hc,hd,cg,cC]):p:=h
def ahA{p:Prop}(h:p:=by simp only [oJ,hc,hd,cg,cC]):p:=h
end Go.az
namespace Go.az
def cC:=@cond_false
def BR:=@List.take_succ
def Xe:=@List.any_append
def Xd:=@Bool.or_false
end Go.az
namespace Go.Proofs.YtomkobcipaligaaGreatDoor
open Go Go.az
section
variable{i:Nat}{a b l:cT}
def dJ(l:cT)(n:Int):Bool:=l.any (·==n)
def um(n:Int)(hl:l.length<=mx):Ev qZ [aa (ints l),iI n] (0,[ak (dJ l n)]):=by
 have h:=oY (l:=l) (p:=(·==n)) (hit:=(0,[cu])) (done:=(1,[])) (LF:=λi N m=>N3 (FU CX EE N) N m [aa (ints l),iI n,iI (i:Int)])
  (bF aeB (aC dU aL))
  λi hi r h1 h2=>bF aeB<|bu (dr hi)<|aH (cH hi)<|YK
 refine bz aBV (aj h.diag ?_);unfold dJ;cases l.any (·==n)<;>exact aL
def aB6(l:cT)(n:Int):l.any (n== ·)=dJ l n:=by
 unfold dJ;congr 1;funext x;exact BEq.comm
def uI(n:Int)(hl:l.length<=mx):Ev rV [aa (ints l),iI n] (0,[ak (dJ l n)]):=by
 have h:=scan (l:=l) (p:=(n== ·)) (hit:=λi=>(0,[iI (i:Int)])) (done:=(1,[])) (LF:=λi N m=>LY (FU CX EE N) N m [aa (ints l),iI n,iI (ln (ints l)),iI (i:Int)])
  (bF abH (aC dU aL))
  λi hi r h1 h2=>bF abH<|bu (dr hi)<|aH (cH hi)<|YK
 rw [aB6]at h;rcases h with⟨h1,h2⟩|⟨h1,i,hi,h2⟩
 ·refine bz abQ (aj (o:=(0,[iI (-1)])) (bz ack (aj h2.diag aL)) (af ?_));rw [h1];rfl
 ·refine bz abQ (aj (o:=(0,[iI (i:Int)])) (bz ack (aj h2.diag aL)) (af ?_));rw [h1];simp [gI,AV.toI]
def wP(a b:cT):Bool:= !(a.any λx=> !dJ b x)
def aly(ha:a.length<=mx)(hb:b.length<=mx):Ev H2 [aa (ints a),aa (ints b)] (0,[ak (wP a b)]):=by
 have h1:∀x,Ev Vd [iI x,J [aa (ints b)]] (0,[ak (!dJ b x),J [aa (ints b)]]):=λx=>
  bz awq (aj (uI x hb) aL)
 have h:=scan (l:=a) (p:=λx=> !dJ b x) (hit:=λi=>(0,[iI (i:Int),J [aa (ints b)]])) (done:=(1,[J [aa (ints b)]])) (LF:=λi N m=>LP (FU CX EE N) N m [aa (ints a),iI (ln (ints a)),iI (i:Int),J [aa (ints b)]])
  (bF aa9 (aC dU aL))
  λi hi r h2 h3=>bF aa9<|bu (dr hi)<|aH (cH hi)<|by
   rw [fM hi,ix hi ha];exact aj (h1 _) (av (λhc=>af (h2 hc)) h3)
 rcases h with⟨h1,h2⟩|⟨h1,i,hi,h2⟩
 ·exact bz ad2 (aj (bz abb (aj (bz abm (aj h2.diag aL)) aL)) (af (by rw [wP,h1];rfl)))
 ·exact bz ad2 (aj (bz abb (aj (bz abm (aj h2.diag aL)) aL)) (af (by rw [wP,h1];simp [gI,gB,AV.toI,AV.toB])))
def alx(ha:a.length<=mx)(hb:b.length<=mx):Ev Ib [aa (ints a),aa (ints b)] (0,[ak (wP a b)]):=by
 have h:=oY (l:=a) (p:=λx=> !dJ b x) (hit:=(0,[aq])) (done:=(1,[])) (LF:=λi N m=>MO (FU CX EE N) N m [aa (ints a),aa (ints b),iI (i:Int)])
  (bF acX (aC dU aL))
  λi hi r h1 h2=>bF acX<|bu (dr hi)<|aH (cH hi)<|by
   rw [fM hi,ix hi ha];exact aj (um _ hb) (av (λhc=>af (h1 hc)) h2)
 refine bz ayS (aj h.diag ?_);unfold wP;cases a.any λx=> !dJ b x<;>exact aL
def sy(l:cT)(lo hi:Int)(i:Nat):Bool:=bif decide (l.getD i 0<lo)then true else bif decide (hi<l.getD i 0)then true else bif decide (0<i)then decide (l.getD i 0<=l.getD (i- 1) 0)else false
def kM(l:cT)(lo hi:Int):Bool:= !(List.range l.length).any (sy l lo hi)
def pr{n:Nat}(h:i<n)(hn:n<=mx)(h0:decide ((0:Int)<(i:Int))=true):bx ((i:Int)- 1)=((i- 1:Nat):Int):=by
 have:0<i:=by simpa using h0
 simp only [mx]at hn;exact uX
def zi:decide ((0:Int)<(i:Int))=decide (0<i):=by
 cases i with
 |zero=>rfl
 |succ n=>simp
def Q2(lo hi:Int)(hl:l.length<=mx):Ev Et [aa (ints l),iI lo,iI hi] (0,[ak (kM l lo hi)]):=by
 have h:=uR (m:=l.length) (p:=sy l lo hi) (hit:=(0,[aq])) (done:=(1,[])) (LF:=λi N m=>HO (FU CX EE N) N m [aa (ints l),iI lo,iI hi,aa (ints l),iI (ln (ints l)),iI (i:Int)])
  (bF acR (aC dU aL))
  λi h r h1 h2=>bF acR<|bu (dr h)<|aH (cH h)<|by
   rw [mh h,ix h hl];refine av (λhc=>af (h1 (by simp only [sy,hc,cg]))) λhc=>av (λhd=>af (h1 (ahF))) λhd=>av (λhe=> ?_) λhe=>h2 (ah9);rw [pr h hl he];have sZ:i- 1<l.length:=by omega
   rw [mh sZ];rw [zi]at he;exact aH (cH sZ)<|av (λhf=>af (h1 (P2))) λhf=>h2 (P2)
 refine bz aye (aj h.diag ?_);exact aim
def Q1(lo hi:Int)(hl:l.length<=mx):Ev EF [aa (ints l),iI lo,iI hi] (0,[ak (kM l lo hi)]):=by
 have h:=uR (m:=l.length) (p:=sy l lo hi) (hit:=(0,[aq])) (done:=(1,[])) (LF:=λi N m=>HT (FU CX EE N) N m [aa (ints l),iI lo,iI hi,iI (i:Int)])
  (bF ac1 (aC dU aL))
  λi h r h1 h2=>bF ac1<|bu (dr h)<|aH (cH h)<|by
   rw [mh h,ix h hl];refine av (λhc=>af (h1 (by simp only [sy,hc,cg]))) λhc=>aH (cH h)<|av (λhd=>af (h1 (ahF))) λhd=>av (λhe=> ?_) λhe=>h2 (ah9);rw [pr h hl he];have sZ:i- 1<l.length:=by omega
   rw [mh sZ];rw [zi]at he;exact aH (cH h)<|aH (cH sZ)<|av (λhf=>af (h1 (P2))) λhf=>h2 (P2)
 refine bz ayT (aj h.diag ?_);exact aim
def BD{k:IntKind}(es:List (AV×AV))(a b:Int)(v:AV):az.dM (az.iK es (.int k a) v) (.int k b)=if b=a then some v else az.dM es (.int k b):=by
 induction es with
 |nil=>
  simp only [az.iK,az.dM,az.sS]
  by_cases h:b=a
  ·subst h;simp
  ·have:(b==a)=false:=by simpa using h
   simp [h,this]
 |cons e es ih=>
  obtain⟨x,y⟩:=e;simp only [az.iK];cases hk:az.sS (.int k a) x with
  |true=>
   simp only [az.dM];rw [show az.sS (.int k b) (.int k a)=(b==a)from rfl]
   by_cases h:b=a
   ·subst h;simp
   ·have h2:(b==a)=false:=by simpa using h
    have h3:az.sS (.int k b) x=false:=by
     cases x<;>simp only [az.sS]at hk⊢<;>try cases hk
     have:=eq_of_beq hk;subst this;exact h2
    simp [h,h2,h3]
  |false=>
   simp only [az.dM];rw [ih]
   by_cases h:b=a
   ·subst h;simp [hk]
   ·simp [h]
def oJ(l:cT)(lo hi:Int)(i:Nat):Bool:=bif decide (l.getD i 0<lo)then true else bif decide (hi<l.getD i 0)then true else dJ (l.take i) (l.getD i 0)
def jK(l:cT)(lo hi:Int):Bool:= !(List.range l.length).any (oJ l lo hi)
def aBw(h:i<l.length)(n:Int):dJ (l.take (i+1)) n=(dJ (l.take i) n||l.getD i 0==n):=by
 unfold dJ;rw [BR,Xe];simp [dz h]
def QK(lo hi:Int)(hl:l.length<=mx):Ev ED [aa (ints l),iI lo,iI hi] (0,[ak (jK l lo hi)]):=by
 have h:=uR (m:=l.length) (p:=oJ l lo hi) (hit:=(0,[aq])) (done:=(1,[])) (LF:=λi N m=>MN (FU CX EE N) N m [aa (ints l),iI lo,iI hi,iI (i:Int)])
  (bF acW (aC dU aL))
  λi h r h1 h2=>bF acW<|bu (dr h)<|aH (cH h)<|by
   rw [mh h,ix h hl];refine av (λhc=>af (h1 (by simp only [oJ,hc,cg]))) λhc=>aH (cH h)<|av (λhd=>af (h1 (ahA))) λhd=>aH (by simp [ln];omega)<|aH (cH h) ?_;have e:(ints l).take ((i:Int).toNat)=ints (l.take i):=by rw [mE,<-List.map_take]
   rw [e];refine aj (um (l.getD i 0) (eh)) (av (λhf=>af (h1 ?_)) λhf=>h2 ?_)
   ·have hf:dJ (l.take i) (l.getD i 0)=true:=hf;simp only [oJ,hc,hd,hf,cC]
   ·have hf:dJ (l.take i) (l.getD i 0)=false:=hf;simp only [oJ,hc,hd,hf,cC]
 refine bz ayQ (aj h.diag ?_);unfold jK;cases(List.range l.length).any (oJ l lo hi)<;>exact aL
def axC{p:Nat->Bool}{m:Nat}(h:i<m):(List.range' i (m- i)).any p=(p i||(List.range' (i+1) (m-(i+1))).any p):=by
 rw [show m- i=(m-(i+1))+1 by omega,List.range'_succ,IB]
def ZL(lo up:Int)(hl:l.length<=mx):Ev H0 [aa (ints l),iI lo,iI up] (0,[ak (jK l lo up)]):=by
 have h:=fD (m:=l.length) (P:=λi=>∀es:List (AV×AV),(∀x,dM es (.int .i64 x)=if dJ (l.take i) x=true then some (cu)else none)->
  ∃ys,bP Bp [iI lo,iI up,aa (ints l),iI (ln (ints l)),iI (i:Int),.ab 0 (ay es)] (bif (List.range' i (l.length- i)).any (oJ l lo up)then(0,[aq,.ab 0 ys])else(1,[.ab 0 ys])))
  (λes _=>⟨ay (au (ay es)),bF acO (aC dU (af (by simp)))⟩)
  λi hi ih es he=>by
   have hf:=he (l.getD i 0);have step:∀ys r,(oJ l lo up i=true->(0,[aq,.ab 0 (ay (au (ay es)))])=r)->(oJ l lo up i=false->bP Bp [iI lo,iI up,aa (ints l),iI (ln (ints l)),iI ((i+1:Nat):Int),.ab 0 ys] r)->ys=ay (iK es (.int .i64 (l.getD i 0)) (cu))->
    bP Bp [iI lo,iI up,aa (ints l),iI (ln (ints l)),iI (i:Int),.ab 0 (ay es)] r:=by
    intro ys r h1 h2 hy;refine bF acO<|bu (dr hi)<|aH (cH hi) ?_;rw [mh hi,ix hi hl];refine av (λhc=>af (h1 (by simp only [oJ,hc,cg]))) λhc=>av (λhd=>af (h1 (ahA))) λhd=> ?_;cases hn:dJ (l.take i) (l.getD i 0)with
    |true=>
     rw [hn,if_pos rfl]at hf;rw [show dM (au (ay es)) (iI (l.getD i 0))=some (cu)by rw [rZ];exact hf];exact aX (af (h1 (by simp only [oJ,hc,hd,hn,cC])))
    |false=>
     rw [hn,if_neg (by simp)]at hf;rw [show dM (au (ay es)) (iI (l.getD i 0))=none by rw [rZ];exact hf];rw [rZ,<-hy];exact h2 (by simp only [oJ,hc,hd,hn,cC])
   rw [axC hi];cases hp:oJ l lo up i with
   |true=>exact⟨_,step _ _ (λ_=>rfl) (λh=>Jf) rfl⟩
   |false=>
    rw [Ox];obtain⟨ys,hy⟩:=ih (iK es (.int .i64 (l.getD i 0)) (cu)) λx=>by
     rw [BD,he,aBw hi]
     by_cases hx:x=l.getD i 0
     ·subst hx;simp
     ·have:(l.getD i 0==x)=false:=by simpa using λh=>hx h.symm
      rw [if_neg hx,this,Xd]
    exact⟨ys,step _ _ (λh=>Jf) (λ_=>hy) rfl⟩
 obtain⟨ys,h⟩:=h [] λx=>by simp [dM,dJ]
 refine bz ayd (aj h.diag ?_);unfold jK;rw [List.range_eq_range',Nat.sub_zero];cases(List.range' 0 l.length).any (oJ l lo up)<;>exact aL
end
end Go.Proofs.YtomkobcipaligaaGreatDoor
namespace Go.az
def anr{p:Prop}(h:p:=by
 refine av (λh1=> ?_) λh1=>af (by simp only [mJ,h1,cC]);refine av (λh2=> ?_) λh2=>af (by rw [dq]at h2;simp only [mJ,h1,h2,cC,cg]);rw [dq]at h2;have hi:=sr h1 h2;have dV:ib o (cf l).length =true:=by rw [pb];exact hi
 refine aH dV ?_;rw [lM hi];refine av (c:= !(cM l o).ptr) (λh3=> ?_) λh3=>af (by simp only [mJ,h1,h2,h3,cC,cg]);refine av (λh4=> ?_) λh4=>af (by simp only [mJ,h1,h2,h3,h4,cC,cg]);refine av (λh5=> ?_) λh5=>af (by simp only [mJ,h1,h2,h3,h4,h5,cC,cg]);refine aH dV ?_;refine av (c:=decide (off<=(cM l o).size)) (λh6=> ?_) λh6=>af (by simp only [mJ,h1,h2,h3,h4,h5,h6,cC,cg]);exact aH dV (af (by simp only [mJ,h1,h2,h3,h4,h5,h6,cg];rfl))):p:=h
def ajj{p:Prop}(h:p:=by
 rw [afM]at hb⊢;intro h;apply hb;simp at h⊢;omega):p:=h
def Je{p:Prop}(h:p:=by rw [pb];exact hi):p:=h
def aiK{p:Prop}(h:p:=by rw [bS,iY,iY];simp only [lN,nG];omega):p:=h
def aiG{p:Prop}(h:p:=by rw [dq]at h2;simp only [jg,h1,h2,cC,cg]):p:=h
def Yg{p:Prop}(h:p:=by rw [hw];simpa using c1):p:=h
def ahY{p:Prop}(h:p:=by simp only [jg,h1,h2,h3,cC,cg]):p:=h
def ahU{p:Prop}(h:p:=by rw [Pd,Jq,E0];simp;omega):p:=h
def Pp{p:Prop}(h:p:=by simpa using c2):p:=h
end Go.az
namespace Go.az
def gp:=@List.drop_length
def oU:=@Bool.and_false
def E0:=@Bool.eq_iff_iff
end Go.az
namespace Go.Proofs.YtomkobcipaligaaGreatDoor
open Go Go.az
section
variable{e:CE}{en i n o off:Int}{l:List OB}
abbrev cf(l:List OB):aZ:=l.map fU
def ob0:OB:=⟨0,0,0,false,[]⟩
def cM(l:List OB)(i:Int):OB:=l.getD i.toNat ob0
def lM(h:ib i l.length=true):gA (cf l) i.toNat=fU (cM l i):=by
 simp only [ib,bS,iY]at h;have:i.toNat<l.length:=by omega
 rw [sf this];simp [cM,this]
def pb:ib i (cf l).length =ib i l.length:=by simp
def sr{n:Nat}(h0:decide (0<=i)=true)(h1:decide (i<(n:Int))=true):ib i n=true:=by
 unfold ib;rw [h0,h1];rfl
def dq{α:Type}(f:α->Row)(l:List α):ln (l.map f)=(l.length:Int):=by simp [ln]
def jg(l:List OB)(o off:Int):Bool:=bif decide (0<=o)then bif decide (o<(l.length:Int))then bif decide (0<=off)then decide (off<(cM l o).size)else false else false else false
def P5:Ev Bf [J [bJ (cf l),iI en],iI o,iI off] (0,[ak (jg l o off)]):=by
 refine bz as8 ?_;refine av (λh1=> ?_) λh1=>af (by simp only [jg,h1,cC]);refine av (c:=decide (o<ln (cf l))) (λh2=> ?_) λh2=>af (aiG);rw [dq]at h2;refine av (λh3=> ?_) λh3=>af (ahY);have hi:=sr h1 h2;refine aH (by rw [show gR [bJ (cf l),iI en] 0=cf l from rfl,pb];exact hi) (af ?_);rw [show gR [bJ (cf l),iI en] 0=cf l from rfl,lM hi];simp only [jg,h1,h2,h3,cg];rfl
def aj6:Ev Ob [bJ (cf l),iI o,iI off] (0,[ak (jg l o off)]):=by
 refine bz aAd ?_;refine av (λh1=> ?_) λh1=>af (by simp only [jg,h1,cC]);refine av (c:=decide (o<ln (cf l))) (λh2=> ?_) λh2=>af (aiG);rw [dq]at h2;refine av (λh3=> ?_) λh3=>af (ahY);have hi:=sr h1 h2;refine aH (Je) (af ?_);rw [lM hi];simp only [jg,h1,h2,h3,cg];rfl
def mJ(l:List OB)(o off n:Int):Bool:=bif decide (0<=o)then bif decide (o<(l.length:Int))then bif !(cM l o).ptr then bif decide (0<=off)then bif decide (1<=n)then bif decide (off<=(cM l o).size)then decide (n<=bx ((cM l o).size - off))else false else false else false else false else false else false
def amX:Ev Mz [J [bJ (cf l),iI en],iI o,iI off,iI n] (0,[ak (mJ l o off n)]):=by
 refine bz avd ?_;rw [show gR [bJ (cf l),iI en] 0=cf l from rfl];exact anr
def ak9:Ev Oe [bJ (cf l),iI o,iI off,iI n] (0,[ak (mJ l o off n)]):=by
 refine bz aAh ?_;exact anr
mutual
def ji:CE->Nat
 | .mk _ _ _ _ _ _ _ _ l=>lN l+1
def lN:List CE->Nat
 | []=>0
 |e::es=>ji e+lN es
end
mutual
def mV:CE->Nat
 | .mk _ _ _ _ _ _ _ _ l=>nG l+1
def nG:List CE->Nat
 | []=>0
 |e::es=>max (mV e) (nG es)
end
def Pd(e:CE):ji e=lN e.L+1:=by cases e;rfl
def Jq(e:CE):mV e=nG e.L+1:=by cases e;rfl
def IL(e:CE):1<=ji e:=by rw [Pd];omega
def CE.Ok.len(h:e.Ok):e.L.length<=mx:=by cases h;assumption
def CE.Ok.ui{y:CE}(h:e.Ok)(hy:y∈e.L):y.Ok:=by cases h with|mk _ _ h=>exact h y hy
def su{l:List CE}{i:Nat}(h:i<l.length):nz (gA (l.map aU) ((i:Int).toNat))=aU l[i]:=by rw [fM h,eG]
def aC9:∀(e:CE),e.Ok->∀(d n:Int),0<=d->d<=64->0<=n->n<=1000->
 ∃n',Ev Ig [J (aU e),iI d,J [iI n]] (0,[ak (decide ((ji e:Int)<=n)&&decide (d+mV e<=64)),J [iI n']])∧((decide ((ji e:Int)<=n)&&decide (d+mV e<=64))=true->n'=n- ji e):=by
 refine CE.ind λe ih bB d n hd dC hn hn'=> ?_;have hw:bx (n- 1)=n- 1:=jv (by omega) (by omega)
 by_cases c1:n- 1<0
 ·refine⟨bx (n- 1),bz VU (bu (c:=decide (bx (n- 1)<0)) (Yg) (af (o:=(0,[aq,J [iI (bx (n- 1))]])) ?_)),λh=> ?_⟩
  ·have:decide ((ji e:Int)<=n)=false:=by have:=IL e;simp;omega
   exact eX
  ·have:=IL e;simp at h;omega
 by_cases c2:64<=d
 ·refine⟨bx (n- 1),bz VU (aC (c:=decide (bx (n- 1)<0)) (Yg) (bu (Pp) (af (o:=(0,[aq,J [iI (bx (n- 1))]])) ?_))),λh=> ?_⟩
  ·have:decide (d+(mV e:Int)<=64)=false:=by rw [Jq];simp;omega
   rw [this,oU]
  ·rw [Jq]at h;simp at h;omega
 have tc:bx (d+1)=d+1:=jv (by omega) (by omega);have h:=fD (m:=e.L.length) (P:=λi=>∀n:Int,0<=n->n<=1000->∃n',
  bP HM [iI d,aT (e.L.map aU),iI (ln (e.L.map aU)),iI (i:Int),J [iI n]]
   (bif decide ((lN (e.L.drop i):Int)<=n)&&decide (d+1+nG (e.L.drop i)<=64)then(1,[J [iI (n- lN (e.L.drop i))]])else(0,[aq,J [iI n']])))
  (λn h0 h1=>⟨0,bF Uw (aC dU (af (by
    rw [gp];have:(decide (((lN []:Nat):Int)<=n)&&decide (d+1+((nG []:Nat):Int)<=64))=true:=aiK;rw [this];simp [lN];rfl)))⟩)
  λi hi fb n h0 h1=>by
   obtain⟨n',hk,oL⟩:=ih e.L[i] (dO hi) (bB.ui (dO hi)) (d+1) n (by omega) (by omega) h0 h1;rw [gF hi];generalize hA:lN (e.L[i]::e.L.drop (i+1))=A;generalize hB:nG (e.L[i]::e.L.drop (i+1))=B;have hA:A=ji e.L[i]+lN (e.L.drop (i+1)):=hA.symm;have hB:B=max (mV e.L[i]) (nG (e.L.drop (i+1))):=hB.symm;cases hb:(decide ((ji e.L[i]:Int)<=n)&&decide (d+1+mV e.L[i]<=64))with
   |false=>
    rw [hb]at hk;refine⟨n',bF Uw<|bu (dr hi)<|aH (cH hi) ?_⟩;rw [su hi,tc];refine aj hk (aX (af ?_));have:(decide ((A:Int)<=n)&&decide (d+1+(B:Int)<=64))=false:=ajj;exact eX
   |true=>
    rw [hb]at hk;have:=oL hb;subst this;simp only [bS,iY]at hb;obtain⟨n2,h2⟩:=fb (n- ji e.L[i]) (by omega) (by have:=IL e.L[i];omega);refine⟨n2,bF Uw<|bu (dr hi)<|aH (cH hi) ?_⟩;rw [su hi,tc,ix hi bB.len];refine aj hk (bj (E.to h2 ?_));have:(decide ((lN (List.drop (i+1) e.L):Int)<=n- ji e.L[i])&&decide (d+1+(nG (List.drop (i+1) e.L):Int)<=64))=(decide ((A:Int)<=n)&&decide (d+1+(B:Int)<=64)):=by
     rw [E0];simp;omega
    rw [this,show n-(ji e.L[i]:Int)-(lN (List.drop (i+1) e.L):Int)=n-(A:Int)by omega]
 obtain⟨n',h⟩:=h (n- 1) (by omega) (by omega);rw [gD]at h;have hq:(decide ((ji e:Int)<=n)&&decide (d+mV e<=64))=(decide ((lN e.L:Int)<=n- 1)&&decide (d+1+nG e.L<=64)):=ahU;rw [hq];have go:∀o,bP HM [iI d,aT (e.L.map aU),iI (ln (e.L.map aU)),iI ((0:Nat):Int),J [iI (n- 1)]] o->∀r,E (λN m=>bif Nat.beq o.1 0 then some (0,[ak (gB o.2 0),J [iI (gI (gC o.2 1) 0)]])else some (0,[cu,J [iI (gI (gC o.2 0) 0)]])) r->Ev Ig [J (aU e),iI d,J [iI n]] r:=λo ho r hr=>by
  refine bz VU (aC (c:=decide (bx (n- 1)<0)) (Yg) (aC (Pp) ?_));rw [tZ];rw [<-hw]at ho;exact aj ho.diag hr
 cases hb:(decide ((lN e.L:Int)<=n- 1)&&decide (d+1+nG e.L<=64))with
 |true=>
  rw [hb]at h;exact⟨_,go _ h _ aL,λ_=>by rw [Pd];show(n- 1- _:Int)=_;omega⟩
 |false=>
  rw [hb]at h;exact⟨_,go _ h _ aL,λh=>bh⟩
end
end Go.Proofs.YtomkobcipaligaaGreatDoor
namespace Go.az
def akL{p:Prop}(h:p:=by
 refine av (c:=b.ptr) (λh2=>aC (c:=a.ptr) h1 (af (by simp only [n7,h1,h2,cg,cC]))) λh2=> ?_;exact av (c:=decide (b.lo<=a.lo)) (λh3=>af (by simp only [n7,h1,h2,h3,cg,cC];rfl)) λh3=>af (by simp only [n7,h1,h2,h3,cC])):p:=h
def akG{p:Prop}(h:p:=by exact av (c:= !s.ptr) (λh2=>av (c:=decide (o.lo<=s.lo)) (λh3=>af (by simp only [iL,h1,h2,h3,cg,cC];rfl)) λh3=>af (by simp only [iL,h1,h2,h3,cg,cC])) λh2=>af (by simp only [iL,h1,h2,cC])):p:=h
def akw{p:Prop}(h:p:=by refine av (c:= !s.ptr) (λh1=>av (c:=decide (0<=s.lo)) (λh2=>af ?_) λh2=>af ?_) λh1=>af ?_<;>simp only [j7,h1,cg,cC]<;>(try simp only [h2,cg,cC])<;>rfl):p:=h
def mG{p:Prop}(h:p:=by exact aX aL):p:=h
def ah8{p:Prop}(h:p:=by simp only [iL,h1,h2,h3,cg,cC];rfl):p:=h
def ahS{p:Prop}(h:p:=by simp only [iL,h1,h2,h3,cg,cC]):p:=h
def ahG{p:Prop}(h:p:=by simp only [n7,h1,h2,cg,cC]):p:=h
end Go.az
namespace Go.Proofs.YtomkobcipaligaaGreatDoor
open Go Go.az
section
variable{a b o:OB}{s:SO}
def aEh:∀(e:CE),e.Ok->∀(room deep:Int),0<=deep->deep<=64->0<=room->room<=1000->
 Ev Oc [J (aU e),iI room,iI deep] (0,[iI (bif decide ((ji e:Int)<=room)&&decide ((mV e:Int)<=deep)then(ji e:Int)else-1)]):=by
 refine CE.ind λe ih bB room deep hd dC hn hn'=> ?_;have ps:=IL e;have pd:1<=mV e:=by rw [Jq];omega
 by_cases c1:room<1
 ·refine bz Wu (wM VT (ag9 (by simpa using c1) (mf (bj (af ?_)))));have:(decide ((ji e:Int)<=room)&&decide ((mV e:Int)<=deep))=false:=eh;exact eX
 by_cases c2:deep<1
 ·refine bz Wu (wM VT (Jt (by simpa using c1) (ag9 (Pp) (mf (bj (af ?_))))));have:(decide ((ji e:Int)<=room)&&decide ((mV e:Int)<=deep))=false:=eh;exact eX
 have tc:bx (deep- 1)=deep- 1:=jv (by omega) (by omega);have h:=fD (m:=e.L.length) (P:=λi=>∀n:Int,1<=n->n<=room->
  bP M8 [iI room,iI deep,iI n,iI (i:Int),J (aU e)]
   (bif decide (n+lN (e.L.drop i)<=room)&&decide ((nG (e.L.drop i):Int)<=deep- 1)then(1,[iI (n+lN (e.L.drop i)),J (aU e)])else(0,[iI (-1),J (aU e)])))
  (λn h0 h1=>bF adm (by
    rw [tZ];refine aC dU (af ?_);rw [gp,eG];have:(decide (n+((lN []:Nat):Int)<=room)&&decide (((nG []:Nat):Int)<=deep- 1))=true:=aiK;rw [this];simp [lN]))
  λi hi fb n h0 h1=>by
   have hw:bx (room- n)=room- n:=jv (by omega) (by omega);have hk:=ih e.L[i] (dO hi) (bB.ui (dO hi)) (room- n) (deep- 1) (by omega) (by omega) (by omega) (by omega);have pk:=IL e.L[i];rw [gF hi];generalize hA:lN (e.L[i]::e.L.drop (i+1))=A;generalize hB:nG (e.L[i]::e.L.drop (i+1))=B;have hA:A=ji e.L[i]+lN (e.L.drop (i+1)):=hA.symm;have hB:B=max (mV e.L[i]) (nG (e.L.drop (i+1))):=hB.symm;refine bF adm ?_;rw [tZ,eG];refine bu (dr hi)<|aH (cH hi) ?_;rw [su hi,tc,hw,ix hi bB.len];cases hb:(decide ((ji e.L[i]:Int)<=room- n)&&decide ((mV e.L[i]:Int)<=deep- 1))with
   |false=>
    rw [hb]at hk;refine aj hk (aX (af ?_));have:(decide (n+(A:Int)<=room)&&decide ((B:Int)<=deep- 1))=false:=ajj;exact eX
   |true=>
    rw [hb]at hk;simp only [bS,iY]at hb;have h2:=fb (n+ji e.L[i]) (by omega) (by omega);refine aj hk (aC (c:=decide ((ji e.L[i]:Int)<0)) (by simp) ?_);rw [show bx (n+gI (0,[iI (bif true then(ji e.L[i]:Int)else-1)]).2 0)=n+(ji e.L[i]:Int)from jv (by show-9223372036854775808<=n+(ji e.L[i]:Int);omega) (by show n+(ji e.L[i]:Int)<=9223372036854775807;omega)];refine E.to h2 ?_;have:(decide (n+(ji e.L[i]:Int)+(lN (List.drop (i+1) e.L):Int)<=room)&&decide ((nG (List.drop (i+1) e.L):Int)<=deep- 1))=(decide (n+(A:Int)<=room)&&decide ((B:Int)<=deep- 1)):=by
     rw [E0];simp;omega
    rw [this,show n+(ji e.L[i]:Int)+(lN (List.drop (i+1) e.L):Int)=n+(A:Int)by omega]
 have h:=h 1 (by omega) (by omega);rw [gD]at h;have hq:(decide ((ji e:Int)<=room)&&decide ((mV e:Int)<=deep))=(decide (1+(lN e.L:Int)<=room)&&decide ((nG e.L:Int)<=deep- 1)):=ahU;rw [hq];refine bz Wu (wM VT (Jt (by simpa using c1) (Jt (Pp) (mf (aX ?_)))));rw [eG];refine aj h.diag ?_;cases hb:(decide (1+(lN e.L:Int)<=room)&&decide ((nG e.L:Int)<=deep- 1))with
 |true=>exact bj (af (by rw [Pd];simp only [cg,gI,AV.toI,List.getD_cons_zero];congr 3;omega))
 |false=>exact mG
def GC(e:CE):Bool:=decide ((ji e:Int)<=256)&&decide ((mV e:Int)<=64)
def alr(s:OB):MX (fU s)=fU s:=rfl
def j7(s:SO):Bool:=bif !s.ptr then bif decide (0<=s.lo)then decide (s.hi<=1)else false else false
def Aa(s:SO):Ev qV [J (bW s)] (0,[ak (j7 s)]):=by
 refine bz at6 ?_;exact akw
def z8(s:SO):Ev vX [J (bW s)] (0,[ak (j7 s)]):=by
 refine bz azD ?_;exact akw
def iL(s:SO)(o:OB):Bool:=bif o.ptr then bif s.null then true else bif s.ptr then wP s.set o.set else false else bif !s.ptr then bif decide (o.lo<=s.lo)then decide (s.hi<=o.hi)else false else false
def aNn(hs:s.set.length<=mx)(ho:o.Ok):Ev UR [J (bW s),J (fU o)] (0,[ak (iL s o)]):=by
 refine bz avc ?_;refine av (c:=o.ptr) (λh1=>av (c:=s.null) (λh2=>af (by simp only [iL,h1,h2,cg])) λh2=>av (c:=s.ptr) (λh3=>aj (aly hs ho) (af (ah8))) λh3=>af (ahS)) λh1=> ?_;exact akG
def aNm(hs:s.set.length<=mx)(ho:o.Ok):Ev WL [J (fU o),J (bW s)] (0,[ak (iL s o)]):=by
 refine bz aAg ?_;refine av (c:=o.ptr) (λh1=>av (c:=s.null) (λh2=>af (by simp only [iL,h1,h2,cg])) λh2=>av (c:=s.ptr) (λh3=>aj (alx hs ho) (af (ah8))) λh3=>af (ahS)) λh1=> ?_;exact akG
def n7(a b:OB):Bool:=bif a.ptr then bif b.ptr then wP a.set b.set else false else bif b.ptr then false else bif decide (b.lo<=a.lo)then decide (a.hi<=b.hi)else false
def aaf(ha:a.Ok)(hb:b.Ok):Ev Io [J (fU a),J (fU b)] (0,[ak (n7 a b)]):=by
 refine bz azO ?_;refine av (c:=a.ptr) (λh1=>bu (c:=a.ptr) h1 (av (c:=b.ptr) (λh2=>aj (aly ha hb) (af (by simp only [n7,h1,h2,cg];rfl))) λh2=>af (ahG))) λh1=> ?_;exact akL
def aae(ha:a.Ok)(hb:b.Ok):Ev Ic [J (fU a),J (fU b)] (0,[ak (n7 a b)]):=by
 refine bz ayW ?_;refine av (c:=a.ptr) (λh1=>bu (c:=a.ptr) h1 (av (c:=b.ptr) (λh2=>aj (alx ha hb) (af (by simp only [n7,h1,h2,cg];rfl))) λh2=>af (ahG))) λh1=> ?_;exact akL
end
end Go.Proofs.YtomkobcipaligaaGreatDoor
namespace Go.az
def YG{p:Prop}(h:p:=by rw [Fk];exact⟨rfl,rfl,rfl,rfl,rfl,rfl,rfl⟩):p:=h
def ai3{p:Prop}(h:p:=by simp only [fg,h1,h2,h3,h4,h5,h6,h7,h8,h9,iS,cg,cC];rfl):p:=h
def aiT{p:Prop}(h:p:=by simp only [fg,h1,h2,h3,h4,h5,h6,h7,h8,h9,cg,cC];rfl):p:=h
def aiO{p:Prop}(h:p:=by simp only [fg,h1,h2,h3,h4,h5,h6,h7,h8,cg,cC];rfl):p:=h
def aiJ{p:Prop}(h:p:=by simp only [fg,h1,h2,h3,h4,h5,h6,h7,h8,h9,iS,cC];rfl):p:=h
def aiE{p:Prop}(h:p:=by simp only [fg,h1,h2,h3,h4,h5,h6,h7,cg,cC];rfl):p:=h
def aiy{p:Prop}(h:p:=by simp only [fg,h1,h2,h3,h4,h5,h6,cg,cC];rfl):p:=h
def ain{p:Prop}(h:p:=by simp only [fg,h1,h2,h3,h4,h5,cg,cC];rfl):p:=h
def aie{p:Prop}(h:p:=by simp only [fg,h1,h2,h3,h4,cg,cC];rfl):p:=h
def ah7{p:Prop}(h:p:=by simp only [fg,h1,h2,h3,cg,cC];rfl):p:=h
def ahT{p:Prop}(h:p:=by simp only [fg,h1,h2,cg,cC];rfl):p:=h
def ahw{p:Prop}(h:p:=by simp only [kN,h1,h2,cg,cC]):p:=h
def ahv{p:Prop}(h:p:=by simp only [kT,h1,h2,cg,cC]):p:=h
end Go.az
namespace Go.az
def Xy:=@Bool.and_true
def ox:=@Bool.true_and
end Go.az
namespace Go.Proofs.YtomkobcipaligaaGreatDoor
open Go Go.az
section
variable{a b:Int}
def kN(k:Int):Bool:=bif k==1 then true else bif k==11 then true else k==14
def kT(k:Int):Bool:=bif k==6 then true else bif k==7 then true else k==10
def fg(e:CE):CE×Int:=
 bif kN e.kind then(.mk e.kind 0 e.N 0 0 0 0 0 [],0)
 else bif e.kind==2 then(.mk e.kind 0 0 e.O e.off 0 0 0 [],0)
 else bif e.kind==3 then(.mk e.kind 0 0 e.O e.off e.len 0 0 [],1)
 else bif e.kind==4 then(.mk e.kind e.op 0 0 0 0 0 0 [],1)
 else bif e.kind==5 then(.mk e.kind e.op 0 0 0 0 0 0 [],2)
 else bif kT e.kind then(.mk e.kind 0 0 0 0 0 0 0 [],2)
 else bif e.kind==8 then(.mk e.kind 0 0 0 0 0 0 0 [],3)
 else bif e.kind==9 then(.mk e.kind 0 0 0 0 0 e.lo e.hi [],1)
 else bif e.kind==12 then(.mk e.kind 0 0 e.O 0 0 0 0 [],0)
 else bif e.kind==13 then(.mk e.kind 0 0 0 0 0 0 0 [],1)
 else(.mk e.kind 0 0 0 0 0 0 0 [],-1)
def kNC(k:Int):bM UJ [bE k] (0,[ak (kN k)]):=
 bU atY (av (λh1=>af (by simp only [kN,h1,cg])) λh1=>av (λh2=>af (ahw)) λh2=>af (by simp only [kN,h1,h2,cC]))
def kNR(k:Int):bM UZ [bE k] (0,[ak (kN k)]):=
 bU auU (av (λh1=>af (by simp only [kN,h1,cg])) λh1=>av (λh2=>af (ahw)) λh2=>af (by simp only [kN,h1,h2,cC]))
def kTC(k:Int):bM TQ [bE k] (0,[ak (kT k)]):=
 bU ars (av (λh1=>af (by simp only [kT,h1,cg])) λh1=>av (λh2=>af (ahv)) λh2=>af (by simp only [kT,h1,h2,cC]))
def kTR(k:Int):bM T0 [bE k] (0,[ak (kT k)]):=
 bU ar5 (av (λh1=>af (by simp only [kT,h1,cg])) λh1=>av (λh2=>af (ahv)) λh2=>af (by simp only [kT,h1,h2,cC]))
def exC(e:CE):Ev V8 [J (aU e)] (0,[J (aU (fg e).1),iI (fg e).2]):=by
 rw [Fk e];refine bz ay5 (aj (kNC e.kind) (av (c:=kN e.kind) (λh1=> ?_) λh1=>av (c:=e.kind==2) (λh2=> ?_) λh2=>av (c:=e.kind==3) (λh3=> ?_) λh3=>av (c:=e.kind==4) (λh4=> ?_) λh4=>av (c:=e.kind==5) (λh5=> ?_) λh5=>
  aj (kTC e.kind) (av (c:=kT e.kind) (λh6=> ?_) λh6=>av (c:=e.kind==8) (λh7=> ?_) λh7=>av (c:=e.kind==9) (λh8=> ?_) λh8=>av (c:=e.kind==12) (λh9=> ?_) λh9=>av (c:=e.kind==13) (λiS=> ?_) λiS=> ?_)))
 ·exact aj (bz axt aL) (af (by simp only [fg,h1,cg];rfl))
 ·exact aj (bz Vg aL) (aj (bz adF aL) (af (ahT)))
 ·exact aj (bz Vg aL) (aj (bz adF aL) (aj (bz axs aL) (af (ah7))))
 ·exact aj (bz adE aL) (af (aie))
 ·exact aj (bz adE aL) (af (ain))
 ·exact af (aiy)
 ·exact af (aiE)
 ·exact aj (bz axr aL) (af (aiO))
 ·exact aj (bz Vg aL) (af (aiT))
 ·exact af (ai3)
 ·exact af (aiJ)
def lP(e:CE):Bool:=
 ((fg e).2 ==(e.L.length:Int))&&((fg e).1.N ==e.N)&&((fg e).1.op ==e.op)&&((fg e).1.O ==e.O)&&((fg e).1.off ==e.off)&&((fg e).1.len ==e.len)&&((fg e).1.lo ==e.lo)&&((fg e).1.hi ==e.hi)
def gX(h:(a != b)=true):(a==b)=false:=lJ
def cN(h:(a != b)=false):(a==b)=true:=lJ
def an6(e:CE)(x:bp):bM TO [iI (fg e).2,J (aU e),J x,J (aU (fg e).1),aa []]
 (bif lP e then(0,[J (aU e),J (sT (eT x) oe),J (aU (fg e).1),aa []])else(1,[aq,J (aU e),J [aq,aq,.aA 3,iI 0,iI 0],J (aU (fg e).1),aa []])):=by
 refine bU arp ?_;rw [eG,eG,tZ,dq];have g:∀y:CE,gI (aU y) 1=y.op∧gI (aU y) 2=y.N∧gI (aU y) 3=y.O∧gI (aU y) 4=y.off∧gI (aU y) 5=y.len∧gI (aU y) 6=y.lo∧gI (aU y) 7=y.hi:=λy=>YG;obtain⟨a1,a2,a3,a4,a5,a6,a7⟩:=g e;obtain⟨b1,b2,b3,b4,b5,b6,b7⟩:=g (fg e).1;rw [a1,a2,a3,a4,a5,a6,a7,b1,b2,b3,b4,b5,b6,b7];refine av (λh1=>af ?_) λh1=>av (λh2=>af ?_) λh2=>av (λh3=>af ?_) λh3=>av (λh4=>af ?_) λh4=>av (λh5=>af ?_) λh5=>av (λh6=>af ?_) λh6=>av (λh7=>af ?_) λh7=>av (λh8=>af ?_) λh8=>af ?_
 ·simp only [lP,gX h1,mZ,cC]
 ·simp only [lP,cN h1,gX h2,mZ,oU,cC]
 ·simp only [lP,cN h1,cN h2,gX h3,mZ,oU,cC]
 ·simp only [lP,cN h1,cN h2,cN h3,gX h4,mZ,oU,cC]
 ·simp only [lP,cN h1,cN h2,cN h3,cN h4,gX h5,mZ,oU,cC]
 ·simp only [lP,cN h1,cN h2,cN h3,cN h4,cN h5,gX h6,mZ,oU,cC]
 ·simp only [lP,cN h1,cN h2,cN h3,cN h4,cN h5,cN h6,gX h7,mZ,oU,cC]
 ·simp only [lP,cN h1,cN h2,cN h3,cN h4,cN h5,cN h6,cN h7,gX h8,oU,cC]
 ·simp only [lP,cN h1,cN h2,cN h3,cN h4,cN h5,cN h6,cN h7,cN h8,Xy,cg]
def aE5(e:CE):bM Vo [iI 0,J (aU e),J [bE e.kind,bE 0,iI 0,iI 0,iI 0,iI 0,iI 0,iI 0,.aA 2],aT []]
 (bif (fg e).2 == -1 then(1,[aq,J (aU e),J (sT (aU (fg e).1) og),aT []])else(0,[iI (fg e).2,J (aU e),J (sT (aU (fg e).1) og),aT []])):=by
 refine bU awb ?_;rw [eG];have g:gI (aU e) 0=e.kind∧gI (aU e) 1=e.op∧gI (aU e) 2=e.N∧gI (aU e) 3=e.O∧gI (aU e) 4=e.off∧gI (aU e) 5=e.len∧gI (aU e) 6=e.lo∧gI (aU e) 7=e.hi:=by
  rw [Fk];exact⟨rfl,rfl,rfl,rfl,rfl,rfl,rfl,rfl⟩
 obtain⟨a0,a1,a2,a3,a4,a5,a6,a7⟩:=g;rw [a0,a1,a2,a3,a4,a5,a6,a7];refine aj (kNR e.kind) (av (c:=kN e.kind) (λh1=> ?_) λh1=>av (c:=e.kind==2) (λh2=> ?_) λh2=>av (c:=e.kind==3) (λh3=> ?_) λh3=>av (c:=e.kind==4) (λh4=> ?_) λh4=>av (c:=e.kind==5) (λh5=> ?_) λh5=>
  aj (kTR e.kind) (av (c:=kT e.kind) (λh6=> ?_) λh6=>av (c:=e.kind==8) (λh7=> ?_) λh7=>av (c:=e.kind==9) (λh8=> ?_) λh8=>av (c:=e.kind==12) (λh9=> ?_) λh9=>av (c:=e.kind==13) (λiS=> ?_) λiS=> ?_))
 ·exact af (by simp only [fg,h1,cg];rfl)
 ·exact af (ahT)
 ·exact af (ah7)
 ·exact af (aie)
 ·exact af (ain)
 ·exact af (aiy)
 ·exact af (aiE)
 ·exact af (aiO)
 ·exact af (aiT)
 ·exact af (ai3)
 ·exact af (aiJ)
def an5(e:CE):Ev V6 [J (aU e)] (0,[ak (lP e)]):=by
 refine bz ayX ?_;rw [eG,show gI (aU e) 0=e.kind by rw [Fk];rfl];refine aj (aE5 e) ?_;cases hk:(fg e).2 == -1 with
 |true=>
  refine bj (af ?_);have:((fg e).2 ==(e.L.length:Int))=false:=by rw [eq_of_beq hk];simp
  simp only [lP,this,mZ];rfl
 |false=>
  refine aX ?_;simp only [cC];rw [show gC (0,[iI (fg e).2,J (aU e),J (sT (aU (fg e).1) og),aT []]).2 1=aU e from rfl,show gC (0,[iI (fg e).2,J (aU e),J (sT (aU (fg e).1) og),aT []]).2 2=sT (aU (fg e).1) og from rfl,tZ,dq];have g:gI (aU e) 1=e.op∧gI (aU e) 2=e.N∧gI (aU e) 3=e.O∧gI (aU e) 4=e.off∧gI (aU e) 5=e.len∧gI (aU e) 6=e.lo∧gI (aU e) 7=e.hi:=YG;have g':∀y:CE,gI (sT (aU y) og) 1=y.op∧gI (sT (aU y) og) 2=y.N∧gI (sT (aU y) og) 3=y.O∧gI (sT (aU y) og) 4=y.off∧gI (sT (aU y) og) 5=y.len∧gI (sT (aU y) og) 6=y.lo∧gI (sT (aU y) og) 7=y.hi:=λy=>YG;obtain⟨a1,a2,a3,a4,a5,a6,a7⟩:=g;obtain⟨b1,b2,b3,b4,b5,b6,b7⟩:=g' (fg e).1;rw [a1,a2,a3,a4,a5,a6,a7,b1,b2,b3,b4,b5,b6,b7];have cm:∀{a b:Int} {c:Bool},(a==b)=c->(b==a)=c:=λh=>by rw [BEq.comm];exact h
  refine av (c:=(e.L.length:Int)==(fg e).2) (λh1=> ?_) λh1=>af ?_
  ·refine av (λh2=>av (λh3=>av (λh4=>av (λh5=>av (λh6=>av (λh7=>af ?_) λh7=>af ?_) λh6=>af ?_) λh5=>af ?_) λh4=>af ?_) λh3=>af ?_) λh2=>af ?_
   ·simp only [lP,cm h1,cm h2,cm h3,cm h4,cm h5,cm h6,cm h7,ox,BEq.comm (a:=(fg e).1.hi)]
   ·simp only [lP,cm h1,cm h2,cm h3,cm h4,cm h5,cm h6,cm h7,ox,mZ]
   ·simp only [lP,cm h1,cm h2,cm h3,cm h4,cm h5,cm h6,ox,mZ]
   ·simp only [lP,cm h1,cm h2,cm h3,cm h4,cm h5,ox,mZ]
   ·simp only [lP,cm h1,cm h2,cm h3,cm h4,ox,mZ]
   ·simp only [lP,cm h1,cm h2,cm h3,ox,mZ]
   ·simp only [lP,cm h1,cm h2,ox,mZ,oU]
  ·simp only [lP,cm h1,mZ]
end
end Go.Proofs.YtomkobcipaligaaGreatDoor
namespace Go.az
def FN{p:Prop}(h:p:=by simp only [kS,J3,h1,h2,h3,h4,h5,cg,cC];rfl):p:=h
def aku{p:Prop}(h:p:=by
 refine aH (by rw [pb];exact hx) ?_;rw [zi0,gF h];have e1:(i+1==0)=false:=rfl;rw [e1]at ih;cases hz:i==0 with
 |true=>exact aX (ih _ _)
 |false=>exact bj (ih _ _)):p:=h
def Ql{p:Prop}(h:p:=by simp only [kS,J3,h1,h2,h3,h4,h5,h6,cg,cC];rfl):p:=h
def PN{p:Prop}(h:p:=by simp only [po,this,cg];exact fin):p:=h
def aio{p:Prop}(h:p:=by simp only [kS,J3,h1,h2,h3,cg,cC];rfl):p:=h
def ahH{p:Prop}(h:p:=by simp only [kS,h1,h2,h3,h4,yh,h5,cg,cC];rfl):p:=h
end Go.az
namespace Go.Proofs.YtomkobcipaligaaGreatDoor
open Go Go.az
section
variable{l:List OB}{s:SO}
def kf:SO:=⟨false,false,[],0,0⟩
def wB:SO:=⟨false,false,[],0,1⟩
def zJ:SO:=⟨false,false,[],-2147483648,2147483647⟩
def Kr:Ev xA [] (0,[J (bW wB)]):=bz aAi aL
def QG:Ev NZ [] (0,[J (bW zJ)]):=bz azP aL
def uh(p:Int):Bool:=bif decide (1<=p)then decide (p<=6)else false
def wZ(p:Int):Bool:=bif p==7 then true else p==8
def sP(p:Int):Bool:=bif decide (9<=p)then decide (p<=12)else false
def ug(p:Int):Bool:=bif decide (13<=p)then decide (p<=15)else false
def ru(a b:SO):Bool:=bif !a.ptr then !b.ptr else false
def J3(a b:SO):Bool:=bif ru a b then true else bif (bif a.ptr then true else a.null)then(bif b.ptr then true else b.null)else false
def yh(a b:SO):Bool:=bif j7 a then j7 b else false
def kS(p:Int)(a b:SO):SO×Bool:=
 bif uh p then(zJ,ru a b)else bif wZ p then(wB,J3 a b)else bif sP p then(wB,ru a b)else bif ug p then(wB,yh a b)else(kf,false)
def aEH(a b:SO):bM Vv [J (bW a),J (bW b)] (0,[ak (ru a b),J (bW a),J (bW b)]):=
 bU awj (av (c:= !a.ptr) (λh=>af (by simp only [ru,h,cg];rfl)) λh=>af (by simp only [ru,h,cC];rfl))
def aEG(a b:SO):bM VJ [J (bW a),J (bW b)] (0,[ak (ru a b),J (bW a),J (bW b)]):=
 bU axj (av (c:= !a.ptr) (λh=>af (by simp only [ru,h,cg];rfl)) λh=>af (by simp only [ru,h,cC];rfl))
def aL7(p:Int):bM Va [bE p] (0,[ak (uh p)]):=
 bU au6 (av (λh=>af (by simp only [uh,h,cg])) λh=>af (by simp only [uh,h,cC]))
def aL5(p:Int):bM UK [bE p] (0,[ak (wZ p)]):=
 bU atZ (av (λh=>af (by simp only [wZ,h,cg])) λh=>af (by simp only [wZ,h,cC]))
def aL4(p:Int):bM U0 [bE p] (0,[ak (wZ p)]):=
 bU auV (av (λh=>af (by simp only [wZ,h,cg])) λh=>af (by simp only [wZ,h,cC]))
def bt{c:Bool}(h:c=true):(0,[cu])=(0,[ak c]):=by rw [h]
def aL6(p:Int):bM U1 [bE p] (0,[ak (uh p)]):=by
 refine bU auW ?_;have q:∀n:Int,1<=n->n<=6->(p==n)=true->uh p=true:=λn h1 h2 h=>by
  rw [eq_of_beq h];simp [uh,h1,h2]
 refine av (λh=>af (bt (q 1 (by omega) (by omega) h))) λh1=>av (λh=>af (bt (q 2 (by omega) (by omega) h))) λh2=>av (λh=>af (bt (q 3 (by omega) (by omega) h))) λh3=>av (λh=>af (bt (q 4 (by omega) (by omega) h))) λh4=>av (λh=>af (bt (q 5 (by omega) (by omega) h))) λh5=>af ?_;have:(p==6)=uh p:=by
  simp at h1 h2 h3 h4 h5
  by_cases h:p=6
  ·subst h;rfl
  ·rw [show(p==6)=false by simpa using h];symm;unfold uh;cases ha:decide (1<=p)<;>simp at ha⊢<;>omega
 rw [this]
def aL3(p:Int):bM UD [bE p] (0,[ak (sP p)]):=by
 refine bU atQ ?_;have q:∀n:Int,9<=n->n<=12->(p==n)=true->sP p=true:=λn h1 h2 h=>by
  rw [eq_of_beq h];simp [sP,h1,h2]
 refine av (λh=>af (bt (q 9 (by omega) (by omega) h))) λh1=>av (λh=>af (bt (q 10 (by omega) (by omega) h))) λh2=>av (λh=>af (bt (q 11 (by omega) (by omega) h))) λh3=>af ?_;have:(p==12)=sP p:=by
  simp at h1 h2 h3
  by_cases h:p=12
  ·subst h;rfl
  ·rw [show(p==12)=false by simpa using h];symm;unfold sP;cases ha:decide (9<=p)<;>simp at ha⊢<;>omega
 rw [this]
def aL2(p:Int):bM UC [bE p] (0,[ak (ug p)]):=by
 refine bU atP ?_;have q:∀n:Int,13<=n->n<=15->(p==n)=true->ug p=true:=λn h1 h2 h=>by
  rw [eq_of_beq h];simp [ug,h1,h2]
 refine av (λh=>af (bt (q 13 (by omega) (by omega) h))) λh1=>av (λh=>af (bt (q 14 (by omega) (by omega) h))) λh2=>af ?_;have:(p==15)=ug p:=by
  simp at h1 h2
  by_cases h:p=15
  ·subst h;rfl
  ·rw [show(p==15)=false by simpa using h];symm;unfold ug;cases ha:decide (13<=p)<;>simp at ha⊢<;>omega
 rw [this]
def aND(p:Int)(a b:SO):Ev VS [bE p,J (bW a),J (bW b)] (0,[J (bW (kS p a b).1),ak (kS p a b).2]):=by
 have two:∀r,(bif j7 a then(0,[J (bW wB),ak (j7 b)])else(0,[J (bW wB),aq]))=r->E (λN n=>bO (FU CX EE N xA []) λ_ o7=>bO (FU CX EE N qV [J (bW a)]) λ_ o8=>bif gB o8 0 then bO (FU CX EE N qV [J (bW b)]) λ_ o9=>some (0,[J (js (gC o7 0)),ak (gB o9 0)])else some (0,[J (js (gC o7 0)),aq])) r:=λr hr=>
  aj Kr (aj (Aa a) (av (c:=j7 a) (λh=>aj (Aa b) (af (by rw [<-hr,h];rfl))) λh=>af (by rw [<-hr,h];rfl)))
 refine bz ayi (aj (aEH a b) (aj (aL7 p) (av (c:=uh p) (λh1=> ?_) λh1=>aj (aL5 p) (av (c:=wZ p) (λh2=> ?_) λh2=>av (λh3=>av (λh4=> ?_) λh4=> ?_) λh3=> ?_))))
 ·exact aj QG (af (by simp only [kS,h1,cg];rfl))
 ·refine aj Kr (av (c:=ru a b) (λh3=>af (aio)) λh3=>av (c:=a.ptr) (λh4=>av (c:=b.ptr) (λh5=>af (FN)) λh5=>af (FN)) λh4=>av (c:=a.null) (λh5=>av (c:=b.ptr) (λh6=>af (Ql)) λh6=>af (Ql)) λh5=>af (FN))
 ·exact aj Kr (af (by simp only [kS,h1,h2,sP,h3,h4,cg,cC];rfl))
 ·refine av (λh5=>av (λh6=>two _ ?_) λh6=>af ?_) λh5=>af ?_
  ·simp only [kS,h1,h2,sP,h3,h4,ug,h5,h6,yh,cg,cC];cases j7 a<;>rfl
  ·simp only [kS,h1,h2,sP,h3,h4,ug,h5,h6,cg,cC];rfl
  ·simp only [kS,h1,h2,sP,h3,h4,ug,h5,cg,cC];rfl
 ·refine av (λh5=> ?_) λh5=>af ?_
  ·exfalso;simp at h3 h5;omega
  ·simp only [kS,h1,h2,sP,h3,ug,h5,cC];rfl
def aNC(p:Int)(a b:SO):Ev V7 [bE p,J (bW a),J (bW b)] (0,[J (bW (kS p a b).1),ak (kS p a b).2]):=by
 refine bz ay0 (aj (aEG a b) (aj (aL6 p) (av (c:=uh p) (λh1=> ?_) λh1=>aj (aL4 p) (av (c:=wZ p) (λh2=> ?_) λh2=>aj (aL3 p) (av (c:=sP p) (λh3=> ?_) λh3=>aj (aL2 p) (av (c:=ug p) (λh4=> ?_) λh4=> ?_))))))
 ·exact af (by simp only [kS,h1,cg];rfl)
 ·refine av (c:=ru a b) (λh3=>af (aio)) λh3=>av (c:=a.ptr) (λh4=>av (c:=b.ptr) (λh5=>af (FN)) λh5=>af (FN)) λh4=>av (c:=a.null) (λh5=>av (c:=b.ptr) (λh6=>af (Ql)) λh6=>af (Ql)) λh5=>af (FN)
 ·exact af (by simp only [kS,h1,h2,h3,cg,cC];rfl)
 ·refine aj (z8 a) (av (c:=j7 a) (λh5=>aj (z8 b) (af ?_)) λh5=>af ?_)
  ·exact ahH
  ·exact ahH
 ·exact af (by simp only [kS,h1,h2,h3,h4,cC];rfl)
def mz(l:List OB):cT->Bool->Int->Int->Int×Int
 | [],_,lo,hi=>(lo,hi)
 |x::xs,true,_,_=>mz l xs false (nk (cM l x).lo (cM l x).lo) (imax (cM l x).hi (cM l x).hi)
 |x::xs,false,lo,hi=>mz l xs false (nk lo (cM l x).lo) (imax hi (cM l x).hi)
def po(l:List OB)(s:SO):SO×Bool:=bif (bif s.ptr then true else s.null)then(⟨false,false,[],(mz l s.set true 0 0).1,(mz l s.set true 0 0).2⟩,true)else(kf,false)
def zi0{i:Nat}:((i:Int)==0)=(i==0):=by
 cases i with
 |zero=>rfl
 |succ n=>exact eh
def aLU{en:Int}(hs:s.set.length<=mx)(hi:∀x∈s.set,ib x l.length=true):
 Ev TE [J [bJ (cf l),iI en],J (bW s)] (0,[J (sT (bW (po l s).1) qD),ak (po l s).2,aa (ints (po l s).1.set)]):=by
 have h:=fD (m:=s.set.length) (P:=λi=>∀lo hi:Int,bP DU [aa (ints s.set),iI (ln (ints s.set)),iI (i:Int),J [bJ (cf l),iI en],J [aq,aq,.aA 2,iI lo,iI hi],aa []]
  (0,[J [bJ (cf l),iI en],J [aq,aq,.aA 2,iI (mz l (s.set.drop i) (i==0) lo hi).1,iI (mz l (s.set.drop i) (i==0) lo hi).2],aa []]))
  (λlo hi=>bF abw (aC dU (af (by rw [gp];rfl))))
  λi h ih lo dV=>bF abw<|bu (dr h)<|aH (cH h)<|by
   have hx:=hi s.set[i] (dO h);rw [fM h,ix h hs];rw [show gI [iI s.set[i]] 0=s.set[i]from rfl,show gR [bJ (cf l),iI en] 0=cf l from rfl,lM hx];exact aku
 have h0:=h 0 0;rw [gD]at h0;have fin:E (λN m=>bO (DU (FU CX EE N) N N [aa (gR (bW s) 2),iI (ln (gR (bW s) 2)),iI 0,J [bJ (cf l),iI en],J [aq,aq,.aA 2,iI 0,iI 0],aa []]) λ_ o2=>some (0,[J (sT (eT (gC o2 1)) qD),cu,aa (gR o2 2)]))
  (0,[J (sT (bW ⟨false,false,[],(mz l s.set true 0 0).1,(mz l s.set true 0 0).2⟩) qD),cu,aa (ints [])]):=aj h0.diag aL
 refine bz ary (wM aqk (sc (c:= !s.ptr) (λh1=>sc (c:= !s.null) (λh2=>mf (bj (af ?_))) λh2=>mf (aX ?_)) λh1=>mf (aX ?_)))
 ·have:(bif s.ptr then true else s.null)=false:=by cases hp:s.ptr<;>simp_all
  simp only [po,this,cC];rfl
 ·have:(bif s.ptr then true else s.null)=true:=by cases hp:s.ptr<;>simp_all
  exact PN
 ·have:(bif s.ptr then true else s.null)=true:=by cases hp:s.ptr<;>simp_all
  exact PN
def aLT(hs:s.set.length<=mx)(hi:∀x∈s.set,ib x l.length=true):
 Ev V4 [bJ (cf l),J (bW s)] (0,[J (sT (bW (po l s).1) qD),ak (po l s).2,aa (ints (po l s).1.set)]):=by
 have h:=fD (m:=s.set.length) (P:=λi=>∀lo hi:Int,bP Ee [bJ (cf l),iI (i:Int),J (bW s),J [aq,aq,.aA 2,iI lo,iI hi],aa []]
  (0,[J (bW s),J [aq,aq,.aA 2,iI (mz l (s.set.drop i) (i==0) lo hi).1,iI (mz l (s.set.drop i) (i==0) lo hi).2],aa []]))
  (λlo hi=>bF acG (aC (dU (l:=s.set)) (af (by rw [gp];rfl))))
  λi h ih lo dV=>bF acG<|bu (dr (l:=s.set) h)<|aH (cH (l:=s.set) h)<|by
   have hx:=hi s.set[i] (dO h);rw [show gR (bW s) 2=ints s.set from rfl,fM h,ix h hs];rw [show gI [iI s.set[i]] 0=s.set[i]from rfl,lM hx];exact aku
 have h0:=h 0 0;rw [gD]at h0;have fin:E (λN m=>bO (Ee (FU CX EE N) N N [bJ (cf l),iI 0,J (bW s),J [aq,aq,.aA 2,iI 0,iI 0],aa []]) λ_ o2=>some (0,[J (sT (eT (gC o2 1)) qD),cu,aa (gR o2 2)]))
  (0,[J (sT (bW ⟨false,false,[],(mz l s.set true 0 0).1,(mz l s.set true 0 0).2⟩) qD),cu,aa (ints [])]):=aj h0.diag aL
 refine bz ayR (wM axc (sc (c:= !s.ptr) (λh1=>sc (c:= !s.null) (λh2=>mf (bj (af ?_))) λh2=>mf (aX ?_)) λh1=>mf (aX ?_)))
 ·have:(bif s.ptr then true else s.null)=false:=by cases hp:s.ptr<;>simp_all
  simp only [po,this,cC];rfl
 ·have:(bif s.ptr then true else s.null)=true:=by cases hp:s.ptr<;>simp_all
  exact PN
 ·have:(bif s.ptr then true else s.null)=true:=by cases hp:s.ptr<;>simp_all
  exact PN
end
end Go.Proofs.YtomkobcipaligaaGreatDoor
namespace Go.az
def Fz{p:Prop}(h:p:=by simp only [mx];omega):p:=h
end Go.az
namespace Go.Proofs.YtomkobcipaligaaGreatDoor
open Go Go.az
section
variable{p:Int}{l:List OB}{us vs:List SO}{n:Nat}{a a' b b' s:SO}{m:cT}
structure SO.Rel(s t:SO):Prop where
 ptr:s.ptr=t.ptr
 null:s.null=t.null
 lo:s.lo=t.lo
 hi:s.hi=t.hi
 set:∀x,x∈s.set ↔ x∈t.set
structure SO.Inv(n:Nat)(s:SO):Prop where
 nd:s.set.Nodup
 jj:∀x∈s.set,ib x n=true
structure RI(n:Nat)(s t:SO):Prop where
 l:s.Inv n
 r:t.Inv n
 rel:s.Rel t
def jf{x:Int}:ib x n=true ↔ 0<=x∧x<n:=by simp [ib]
def It:∀(n:Nat) (l:cT),l.Nodup->(∀x∈l,ib x n=true)->l.length<=n
 |0,l,_,h=>by
  cases l with
  |nil=>simp
  |cons x xs=>have:=jf.1 (h x (by simp));omega
 |n+1,l,hd,h=>by
  have hle:l.length<=(l.filter λx=>x != (n:Int)).length +1:=by
   clear h
   induction l with
   |nil=>simp
   |cons x xs ih=>
    rw [BZ]at hd
    by_cases hx:x=(n:Int)
    ·subst hx;have:(xs.filter λx=>x != (n:Int))=xs:=List.filter_eq_self.2 λy hy=>by
      simp;rintro rfl;exact hd.1 hy
     rw [List.filter_cons_of_neg (by simp),this];simp
    ·rw [List.filter_cons_of_pos (I8)];have:=ih hd.2;simp only [nc];omega
  have:=It n (l.filter λx=>x != (n:Int)) (hd.filter _) λx hx=>by
   rw [List.mem_filter]at hx;have h1:=jf.1 (h x hx.1);have h2:x≠(n:Int):=by simpa using hx.2
   exact jf.2 ⟨h1.1,by omega⟩
  omega
def SO.Inv.len(h:s.Inv n):s.set.length<=n:=It n _ h.nd h.jj
structure OL(l:List OB):Prop where
 len:l.length<=2048
 emp:∀o∈l,o.ptr=false->o.set=[]
 nd:∀o∈l,o.set.Nodup
 jj:∀o∈l,∀x∈o.set,ib x l.length=true
def OL.ok(h:OL l){o:OB}(ho:o∈l):o.Ok:=by
 have:=It _ _ (h.nd o ho) (h.jj o ho);have:=h.len;show o.set.length<=mx;exact Fz
def qq{i:Int}(h:ib i l.length=true):cM l i∈l:=by
 have:=jf.1 h;have h2:i.toNat<l.length:=by omega
 simp only [cM,mY,dz h2,oR];exact dO h2
def SO.Inv.le(h:s.Inv n)(hn:n<=2048):s.set.length<=mx:=by have:=h.len;show s.set.length<=1048576;omega
inductive RL(n:Nat):List SO->List SO->Prop
 |nil:RL n [] []
 |cons{a b:SO}{us vs:List SO}(h:RI n a b)(t:RL n us vs):RL n (a::us) (b::vs)
def RL.len(h:RL n us vs):us.length=vs.length:=by
 induction h with
 |nil=>rfl
 |cons _ _ ih=>simp [ih]
def RL.snoc(h:RL n us vs)(A1:RI n a b):RL n (us++[a]) (vs++[b]):=by
 induction h with
 |nil=>exact .cons A1 .nil
 |cons h _ ih=>exact .cons h ih
def RL.at{n:Nat}{us vs:List SO}(h:RL n us vs){i:Nat}(ha:i<us.length)(hb:i<vs.length):RI n us[i] vs[i]:=by
 induction h generalizing i with
 |nil=>simp at ha
 |cons h _ ih=>
  cases i with
  |zero=>exact h
  |succ i=>exact ih (by simpa using ha) (Ja)
def BY{l:cT}{n:Int}:dJ l n=true ↔ n∈l:=by simp [dJ]
def O9{l:cT}(h:∀x,x∈l ↔ x∈m)(p:Int->Bool):l.any p=m.any p:=by
 rw [E0,OA,OA];exact⟨λ⟨x,h1,h2⟩=>⟨x,(h x).1 h1,h2⟩,λ⟨x,h1,h2⟩=>⟨x,(h x).2 h1,h2⟩⟩
def aBf{l:cT}(h:∀x,x∈l ↔ x∈m)(b:cT):wP l b=wP m b:=by unfold wP;rw [O9 h]
def SO.Rel.j7{s t:SO}(h:s.Rel t):j7 s=Go.Proofs.YtomkobcipaligaaGreatDoor.j7 t:=by unfold Go.Proofs.YtomkobcipaligaaGreatDoor.j7;rw [h.ptr,h.lo,h.hi]
def SO.Rel.iL{s t:SO}(h:s.Rel t)(o:OB):iL s o=Go.Proofs.YtomkobcipaligaaGreatDoor.iL t o:=by unfold Go.Proofs.YtomkobcipaligaaGreatDoor.iL;rw [h.ptr,h.null,h.lo,h.hi,aBf h.set]
def aB4(ha:a.Rel a')(hb:b.Rel b'):kS p a b=kS p a' b':=by
 have h1:ru a b=ru a' b':=by unfold ru;rw [ha.ptr,hb.ptr]
 unfold kS J3 yh;rw [h1,ha.ptr,hb.ptr,ha.null,hb.null,ha.j7,hb.j7]
def O4(h:s.set=[]):s.Inv n:=⟨by rw [h];exact v8,λx hx=>by rw [h]at hx;simp at hx⟩
def rel_refl(s:SO):s.Rel s:=⟨rfl,rfl,rfl,rfl,λ_=>Iff.rfl⟩
def uM(h:s.set=[]):RI n s s:=⟨O4 h,O4 h,rel_refl s⟩
def aB5:RI n (kS p a b).1 (kS p a b).1 :=by
 refine uM ?_;unfold kS;cases uh p<;>cases wZ p<;>cases sP p<;>cases ug p<;>rfl
def afh(l:List OB):∀(xs:cT) (lo hi:Int),(∀v,(mz l xs false lo hi).1 <=v ↔ lo<=v∨∃x∈xs,(cM l x).lo <=v)∧(∀v,v<=(mz l xs false lo hi).2 ↔ v<=hi∨∃x∈xs,v<=(cM l x).hi)
 | [],lo,hi=>by simp [mz]
 |x::xs,lo,hi=>by
  obtain⟨h1,h2⟩:=afh l xs (nk lo (cM l x).lo) (imax hi (cM l x).hi);constructor
  ·intro v;rw [mz,h1];have:nk lo (cM l x).lo <=v ↔ lo<=v∨(cM l x).lo <=v:=by unfold nk;split<;>omega
   rw [this];simp [or_assoc]
  ·intro v;rw [mz,h2];have:v<=imax hi (cM l x).hi ↔ v<=hi∨v<=(cM l x).hi :=by unfold imax;split<;>omega
   rw [this];simp [or_assoc]
def af6(l:List OB)(xs:cT)(h:xs≠ []):(∀v,(mz l xs true 0 0).1 <=v ↔∃x∈xs,(cM l x).lo <=v)∧(∀v,v<=(mz l xs true 0 0).2 ↔∃x∈xs,v<=(cM l x).hi):=by
 cases xs with
 |nil=>exact absurd rfl h
 |cons x xs=>
  obtain⟨h1,h2⟩:=afh l xs (nk (cM l x).lo (cM l x).lo) (imax (cM l x).hi (cM l x).hi);have e1:nk (cM l x).lo (cM l x).lo =(cM l x).lo :=by unfold nk;split<;>rfl
  have e2:imax (cM l x).hi (cM l x).hi =(cM l x).hi :=by unfold imax;split<;>rfl
  rw [e1,e2]at h1 h2;constructor
  ·intro v;rw [mz,e1,e2,h1];simp
  ·intro v;rw [mz,e1,e2,h2];simp
def aCx{xs ys:cT}(h:∀x,x∈xs ↔ x∈ys):mz l xs true 0 0=mz l ys true 0 0:=by
 by_cases hx:xs=[]
 ·have:ys=[]:=by
   cases ys with
   |nil=>rfl
   |cons y ys=>have:=(h y).2 (by simp);rw [hx]at this;simp at this
  rw [hx,this]
 ·have hy:ys≠ []:=by
   intro hy;cases xs with
   |nil=>exact hx rfl
   |cons x xs=>have:=(h x).1 (by simp);rw [hy]at this;simp at this
  obtain⟨a1,a2⟩:=af6 l xs hx;obtain⟨b1,b2⟩:=af6 l ys hy;have e:∀(p:Int->Prop),(∃x∈xs,p x) ↔∃x∈ys,p x:=λp=>⟨λ⟨x,q,r⟩=>⟨x,(h x).1 q,r⟩,λ⟨x,q,r⟩=>⟨x,(h x).2 q,r⟩⟩;refine Prod.ext ?_ ?_
  ·refine Int.le_antisymm ?_ ?_
   ·rw [a1,e λx=>(cM l x).lo <=_,<-b1];exact sa _
   ·rw [b1,<-e λx=>(cM l x).lo <=_,<-a1];exact sa _
  ·refine Int.le_antisymm ?_ ?_
   ·rw [b2,<-e λx=>_<=(cM l x).hi,<-a2];exact sa _
   ·rw [a2,e λx=>_<=(cM l x).hi,<-b2];exact sa _
def aBo{t:SO}(h:s.Rel t):po l s=po l t:=by
 unfold po;rw [h.ptr,h.null,aCx h.set]
def aBn:(po l s).1.set =[]:=by
 unfold po;cases(bif s.ptr then true else s.null)<;>rfl
def oF(a b:SO):Bool:=bif !a.ptr&& !b.ptr then true else(a.ptr||a.null)&&(b.ptr||b.null)
structure yF(a b s:SO):Prop where
 ptr:s.ptr=(a.ptr||b.ptr)
 null:s.null=false
 lo:s.lo=bif a.ptr||b.ptr then 0 else nk a.lo b.lo
 hi:s.hi=bif a.ptr||b.ptr then 0 else imax a.hi b.hi
 set:∀x,x∈s.set ↔ (a.ptr=true∧x∈a.set)∨(b.ptr=true∧x∈b.set)
def yF.rel{s':SO}(ha:a.Rel a')(hb:b.Rel b')(h:yF a b s)(h':yF a' b' s'):s.Rel s':=
 ⟨by rw [h.ptr,h'.ptr,ha.ptr,hb.ptr],by rw [h.null,h'.null],by rw [h.lo,h'.lo,ha.ptr,hb.ptr,ha.lo,hb.lo],by rw [h.hi,h'.hi,ha.ptr,hb.ptr,ha.hi,hb.hi],λx=>by rw [h.set,h'.set,ha.ptr,hb.ptr,ha.set,hb.set]⟩
def aBU(ha:a.Rel a')(hb:b.Rel b'):oF a b=oF a' b':=by unfold oF;rw [ha.ptr,hb.ptr,ha.null,hb.null]
def yF.jj{n:Nat}{a b s:SO}(ha:a.Inv n)(hb:b.Inv n)(h:yF a b s):∀x∈s.set,ib x n=true:=λx hx=>by
 rcases(h.set x).1 hx with⟨_,h⟩|⟨_,h⟩
 ·exact ha.jj x h
 ·exact hb.jj x h
end
end Go.Proofs.YtomkobcipaligaaGreatDoor
namespace Go.az
def zN{p:Prop}(h:p:=by rw [hp];rfl):p:=h
def Yu{p:Prop}(h:p:=by rw [BY.2 hm]at hi;cases hi):p:=h
def ahX{p:Prop}(h:p:=by cases h1:a.ptr<;>cases h2:a.null<;>simp_all):p:=h
def ahW{p:Prop}(h:p:=by cases h1:b.ptr<;>cases h2:b.null<;>simp_all):p:=h
def Pr{p:Prop}(h:p:=by rw [hp,hq];rfl):p:=h
def Yc{p:Prop}(h:p:=by rw [ea']at h;cases h):p:=h
def Ya{p:Prop}(h:p:=by
 rw [gD]at this;exact this):p:=h
end Go.az
namespace Go.Proofs.YtomkobcipaligaaGreatDoor
open Go Go.az
section
variable{i:Int}{n:Nat}{c:SO}{rows:aZ}{acc l:cT}
def inV(n:Int)(hl:l.length<=mx):Ev NX [iI n,aa (ints l)] (0,[ak (dJ l n),aa (ints l)]):=by
 have h:=oY (l:=l) (p:=(·==n)) (hit:=(0,[cu,aa (ints l)])) (done:=(1,[aa (ints l)])) (LF:=λi N m=>Na (FU CX EE N) N m [iI n,iI (i:Int),aa (ints l)])
  (bF adq (aC dU aL))
  λi hi r h1 h2=>bF adq<|bu (dr hi)<|aH (cH hi)<|aH (B6)<|YK
 refine bz azI (aj h.diag ?_);unfold dJ;cases l.any (·==n)<;>exact aL
def ll:cT->cT->cT
 |acc,[]=>acc
 |acc,x::xs=>ll (bif dJ acc x then acc else acc++[x]) xs
def Xz:∀(acc xs:cT) (y:Int),y∈ll acc xs ↔ y∈acc∨y∈xs
 |acc,[],y=>by simp [ll]
 |acc,x::xs,y=>by
  rw [ll,Xz];cases h:dJ acc x with
  |true=>
   have:=BY.1 h;simp only [cg,gN];constructor
   ·rintro(h|h)
    ·exact .inl h
    ·exact .inr (.inr h)
   ·rintro(h|rfl|h)
    ·exact .inl h
    ·exact .inl this
    ·exact .inr h
  |false=>simp only [cC,jO,gN,OU,or_false];exact or_assoc
def Il{x:Int}(h:l.Nodup)(hx:x∉l):(l++[x]).Nodup :=by
 rw [List.nodup_append];exact⟨h,by simp,λa ha b hb=>by simp at hb;subst hb;rintro rfl;exact hx ha⟩
def Wx:∀(acc xs:cT),acc.Nodup->(ll acc xs).Nodup
 |acc,[],h=>h
 |acc,x::xs,h=>by
  rw [ll];refine Wx _ xs ?_;cases hi:dJ acc x with
  |true=>exact h
  |false=>exact Il h λhm=>Yu
def agu{xs:cT}(h1:∀x∈acc,ib x n=true)(h2:∀x∈xs,ib x n=true):∀x∈ll acc xs,ib x n=true:=λx hx=>by
 rcases(Xz acc xs x).1 hx with h|h
 ·exact h1 x h
 ·exact h2 x h
abbrev z2:bp:=[aq,aq,.aA 2,iI 0,iI 0]
abbrev z3:bp:=[aq,aq,.aA 3,iI 0,iI 0]
abbrev z4:bp:=[aq,aq,.aA 4,iI 0,iI 0]
abbrev p2:bp:=[cu,aq,.aA 2,iI 0,iI 0]
abbrev p4:bp:=[cu,aq,.aA 4,iI 0,iI 0]
def aDD(hn:n<=2048)(h1:ib i rows.length=true)(h2:gA rows i.toNat=bW c)(hc:c.Inv n)(x:bp)(hx:sT (eT x) pq=x):
 ∀acc:cT,acc.Nodup->(∀y∈acc,ib y n=true)->bP Bd [iI i,iI 0,J x,er rows,aa (ints acc)]
  (0,[J x,er rows,aa (ints (bif c.ptr then ll acc c.set else acc))]):=by
 have h3:decide (i.toNat<rows.length)=true:=by have:=jf.1 h1;simp;omega
 have hJ:∀k:Int,bM TZ [iI i,iI k,er rows] (bif c.ptr then bif decide (k<(c.set.length:Int))then(0,[er rows])else(1,[er rows])else(1,[er rows])):=λk=>by
  refine bU ar4 (aH h1 (aH h3 ?_));rw [h2];refine av (c:=c.ptr) (λhp=>aH h1 (aH h3 ?_)) λhp=>af (zN);rw [show gR (bW c) 2=ints c.set from rfl,dq];exact av (λhq=>af (Pr)) λhq=>af (Pr)
 cases hp:c.ptr with
 |false=>
  intro acc _ _;have hJ:=hJ 0;rw [hp]at hJ;exact bF TF (aj hJ (bj (af (by rw [hx];rfl))))
 |true=>
  have hl:=hc.le hn;have h:=fD (m:=c.set.length) (P:=λk=>∀acc:cT,acc.Nodup->(∀y∈acc,ib y n=true)->bP Bd [iI i,iI (k:Int),J x,er rows,aa (ints acc)]
   (0,[J x,er rows,aa (ints (ll acc (c.set.drop k)))]))
   (λacc _ _=>by
     have hJ:=hJ (c.set.length:Int);rw [hp,show decide ((c.set.length:Int)<(c.set.length:Int))=false by simp]at hJ;exact bF TF (aj hJ (bj (af (by rw [hx,gp];rfl)))))
   λk hk ih acc ha hr=>by
    have hJ:=hJ (k:Int);rw [hp,show decide ((k:Int)<(c.set.length:Int))=true by simpa using hk]at hJ;have hla:acc.length<=n:=It n _ ha hr;refine bF TF (aj hJ (aX ?_));rw [show gR (bif true then bif true then(0,[er rows])else(1,[er rows])else(1,[er rows])).2 0=rows from rfl,hx,h2,show gR (bW c) 2=ints c.set from rfl,fM hk,ix hk hl];refine aH h1 (aH h3 (aH (cH hk) (aj (inV c.set[k] (by show acc.length<=1048576;omega)) ?_)));rw [gF hk,ll];cases hi:dJ acc c.set[k]with
    |true=>exact bj (ih acc ha hr)
    |false=>
     refine aX (aH h1 (aH h3 (aH (cH hk) (aH ?_ ?_))))
     ·rw [show gR (0,[aq,aa (ints acc)]).2 1=ints acc from rfl,eE];simp;omega
     ·have:=ih (acc++[c.set[k]]) (Il ha λhm=>Yu) λy hy=>by
       rw [jO]at hy;rcases hy with hy|hy
       ·exact hr y hy
       ·simp at hy;subst hy;exact hc.jj _ (dO hk)
      have e:ints (acc++[c.set[k]])=ints acc++[[iI c.set[k]]]:=by simp
      rw [e]at this;exact this
  intro acc ha hr;have:=h acc ha hr;exact Ya
def IC(hn:n<=2048)(ze:decide (i<2)=true)(h1:ib i rows.length=true)(h2:gA rows i.toNat=bW c)(hc:c.Inv n)(ha:acc.Nodup)(hr:∀y∈acc,ib y n=true){r:UO}
 (oj:(!c.ptr&& !c.null)=true->(0,[aq,J z3,J p4,er rows,aa [],aa (ints acc)])=r)
 (aMI:(!c.ptr&& !c.null)=false->bP Bm [iI (bx (i+1)),J z3,J p4,er rows,aa [],aa (ints (bif c.ptr then ll acc c.set else acc))] r):
 bP Bm [iI i,J z3,J p4,er rows,aa [],aa (ints acc)] r:=by
 have h3:decide (i.toNat<rows.length)=true:=by have:=jf.1 h1;simp;omega
 refine bF acI (bu ze (wM asS (Fm h1 (Fm h3 ?_))));rw [h2];have go:(!c.ptr&& !c.null)=false->E (λN m=>bO (Bd (FU CX EE N) N N [iI i,iI 0,J p2,er rows,aa (ints acc)]) λ_ o5=>Bm (FU CX EE N) N m [iI (bx (i+1)),J z3,J (sT (eT (gC o5 0)) nm),er (gR o5 1),aa [],aa (gR o5 2)]) r:=λh=>
  aj (aDD hn h1 h2 hc p2 rfl acc ha hr).diag (aMI h)
 refine sc (c:= !c.ptr) (λhp=>Fm h1 (Fm h3 (sc (c:= !c.null) (λhq=>mf (bj (af (oj (Pr))))) λhq=>mf (aX (go (Pr)))))) λhp=>mf (aX (go (zN)))
def aET(hn:n<=2048){a b:SO}(ha:a.Inv n)(hb:b.Inv n):∃s,Ev NF [J (bW a),J (bW b)] (0,[J (bW s),ak (oF a b)])∧(oF a b=true->s.Inv n∧yF a b s):=by
 have hJ:bM Vn [J (bW a),J (bW b)] (0,[ak (a.ptr||b.ptr),J (bW a),J (bW b)]):=
  bU awa (av (c:=a.ptr) (λh=>af (fY)) λh=>af (fY))
 have hnp:(!a.ptr&& !b.ptr)= !(a.ptr||b.ptr):=by cases a.ptr<;>cases b.ptr<;>rfl
 cases hp:(a.ptr||b.ptr)with
 |false=>
  rw [hp]at hJ;have e:oF a b=true:=by unfold oF;rw [hnp,hp];rfl
  refine⟨⟨false,false,[],nk a.lo b.lo,imax a.hi b.hi⟩,bz aeg (aj hJ (bj (af (by rw [e];rfl)))),λ_=>⟨O4 rfl,⟨hp.symm,rfl,zN,zN,λx=> ?_⟩⟩⟩;rw [Bool.or_eq_false_iff]at hp;simp [hp.1,hp.2]
 |true=>
  rw [hp]at hJ;have e:oF a b=((a.ptr||a.null)&&(b.ptr||b.null)):=by unfold oF;rw [hnp,hp];rfl
  have frm:∀o:UO,bP Bm [iI 0,J z3,J p4,er [bW a,bW b],aa [],aa []] o->∀r,E (λN m=>bif Nat.beq o.1 0 then some (0,[J (sT (js (gC o.2 1)) [(2,aa (gR o.2 4))]),ak (gB o.2 0)])else some (0,[J (sT (js (gC o.2 1)) [(2,aa (gR o.2 4))]),cu])) r->Ev NF [J (bW a),J (bW b)] r:=λo ho r hr=>
   bz aeg (aj hJ (aX (aj ho.diag hr)))
  cases ea:(a.ptr||a.null)with
  |false=>
   have ea':(!a.ptr&& !a.null)=true:=ahX;refine⟨kf,frm _ (IC hn rfl rfl (rfl:gA [bW a,bW b] 0=bW a) ha v8 (by simp) (λ_=>rfl) λh=>Yc) _ (aX (af (by rw [e,ea];rfl))),λh=>by rw [e,ea]at h;cases h⟩
  |true=>
   have ea':(!a.ptr&& !a.null)=false:=ahX;have yO:(bif a.ptr then ll [] a.set else []).Nodup :=by cases a.ptr;exact v8;exact Wx _ _ v8
   have RQ:∀y∈(bif a.ptr then ll [] a.set else []),ib y n=true:=by cases a.ptr;simp;exact agu (by simp) ha.jj
   cases eb:(b.ptr||b.null)with
   |false=>
    have eb':(!b.ptr&& !b.null)=true:=ahW;refine⟨kf,frm _ (IC hn rfl rfl (rfl:gA [bW a,bW b] 0=bW a) ha v8 (by simp) (λh=>Yc) λ_=>IC (i:=1) hn rfl rfl (rfl:gA [bW a,bW b] 1=bW b) hb yO RQ (λ_=>rfl) λh=>by rw [eb']at h;cases h) _ (aX (af (by rw [e,ea,eb];rfl))),λh=>by rw [e,ea,eb]at h;cases h⟩
   |true=>
    have eb':(!b.ptr&& !b.null)=false:=ahW;have nd2:(bif b.ptr then ll (bif a.ptr then ll [] a.set else []) b.set else(bif a.ptr then ll [] a.set else [])).Nodup :=by cases b.ptr;exact yO;exact Wx _ _ yO
    have rg2:∀y∈(bif b.ptr then ll (bif a.ptr then ll [] a.set else []) b.set else(bif a.ptr then ll [] a.set else [])),ib y n=true:=by cases b.ptr;exact RQ;exact agu RQ hb.jj
    refine⟨⟨true,false,bif b.ptr then ll (bif a.ptr then ll [] a.set else []) b.set else(bif a.ptr then ll [] a.set else []),0,0⟩,frm _ (IC hn rfl rfl (rfl:gA [bW a,bW b] 0=bW a) ha v8 (by simp) (λh=>Yc) λ_=>IC (i:=1) hn rfl rfl (rfl:gA [bW a,bW b] 1=bW b) hb yO RQ (λh=>by rw [eb']at h;cases h) λ_=>bF acI (bj aL)) _ (bj (af (by rw [e,ea,eb];rfl))),λ_=>⟨⟨nd2,rg2⟩,⟨hp.symm,rfl,zN,zN,λx=> ?_⟩⟩⟩;show x∈(bif b.ptr then ll (bif a.ptr then ll [] a.set else []) b.set else(bif a.ptr then ll [] a.set else [])) ↔ _;cases a.ptr<;>cases b.ptr<;>simp [Xz]
end
end Go.Proofs.YtomkobcipaligaaGreatDoor
namespace Go.az
def wG{p:Prop}(h:p:=by rw [eE];simp;omega):p:=h
def ajx{p:Prop}(h:p:=by
 match xs,hi with
 | [x],_=>exact⟨x,rfl⟩
 | [],h=>simp at h;omega
 |_::_::_,h=>simp at h;omega):p:=h
def Yh{p:Prop}(h:p:=by rw [tZ];exact dU):p:=h
def Fs{p:Prop}(h:p:=by rw [h1,h2];rfl):p:=h
end Go.az
namespace Go.Proofs.YtomkobcipaligaaGreatDoor
open Go Go.az
section
variable{e:CE}{la lb ls xs:List SO}{i:Nat}
theorem aDX(l:aZ)(hl:l.length<=1000):E (λN _=>Ah Ez (FU CX EE N A8) (FU CX EE N A7) (FU CX EE N Hr) [dL l]) (0,[dL l]):=by
 cases l with
 |nil=>
  obtain⟨B,h1⟩:Ev A8 [] (0,[dL []]):=bz aqm aL;obtain⟨C,h2⟩:Ev A7 [] (0,[dL []]):=bz aql aL;refine⟨B+C,λN n hN _=> ?_⟩;have h1:FU CX EE N A8 []=_:=h1 N N (by omega) (by omega);have h2:FU CX EE N A7 []=_:=h2 N N (by omega) (by omega);show Ah Ez (FU CX EE N A8) (FU CX EE N A7) (FU CX EE N Hr) [dL []]=_;show(bif tW Ez (FU CX EE N A8 [])&&tW Ez (FU CX EE N A7 [])then some (0,[dL []])else none)=_;exact Fs
 |cons x xs=>
  have h:Ev Hr [dL (x::xs)] (0,[dL (x::xs)]):=bz ase (bj (aH (by simp at hl⊢;omega) aL));exact h
theorem aDY(l:aZ)(hl:l.length<=100000):E (λN _=>Ah tP (FU CX EE N DY) (FU CX EE N DX) (FU CX EE N Mi) [aa l]) (0,[aa l]):=by
 cases l with
 |nil=>
  obtain⟨B,h1⟩:Ev DY [] (0,[aa []]):=bz aqU aL;obtain⟨C,h2⟩:Ev DX [] (0,[aa []]):=bz aqT aL;refine⟨B+C,λN n hN _=> ?_⟩;have h1:FU CX EE N DY []=_:=h1 N N (by omega) (by omega);have h2:FU CX EE N DX []=_:=h2 N N (by omega) (by omega);show(bif tW tP (FU CX EE N DY [])&&tW tP (FU CX EE N DX [])then some (0,[aa []])else none)=_;exact Fs
 |cons x xs=>
  have h:Ev Mi [aa (x::xs)] (0,[aa (x::xs)]):=bz as1 (bj (aH (by simp at hl⊢;omega) aL));exact h
def ml:Prop:=∀{n:Nat},n<=2048->∀{a b:SO},a.Inv n->b.Inv n->∃s,Ev H3 [J (bW a),J (bW b)] (0,[J (sT (bW s) qD),ak (oF a b),aa (ints s.set)])∧(oF a b=true->s.Inv n∧yF a b s)
abbrev nI(l:List OB)(en:Int):AV:= J [bJ (cf l),iI en]
abbrev jM(l:List OB)(ls:List SO)(en:Int):AV:= J [bJ (cf l),er (ls.map bW),iI en]
theorem Kk(e:CE):gI (aU e) 0=e.kind:=Pz
theorem an1(e:CE):gI (aU e) 1=e.op:=Pz
theorem aaG(e:CE):gI (aU e) 3=e.O:=Pz
def pK(e:CE)(i:Nat)(ls xs:List SO):List SO:=bif e.kind==10 then bif (i:Int)==1 then ls++[xs.getD 0 kf]else ls else ls
theorem arC(hi:i=xs.length)(hl:ls.length<=900):bM Td [dL (ls.map bW),iI (i:Int),dL (ls.map bW),J (aU e),dL (xs.map bW)]
 (0,[dL ((pK e i ls xs).map bW),J (aU e),dL (xs.map bW)]):=by
 refine bU ap1 ?_;rw [Kk,eG];refine av (λh1=>av (λh2=> ?_) λh2=>af ?_) λh1=>af ?_
 ·have h3:(i:Int)=1:=by simpa using h2
  obtain⟨x,hx⟩:∃x,xs=[x]:=ajx;subst hx;refine aj (aDX _ (eh)) (aH rfl (aH rfl (aH ?_ (af ?_))))
  ·rw [show gR (0,[dL (ls.map bW)]).2 0=ls.map bW from rfl,eE];simp;omega
  ·simp only [pK,h1,h2,cg,oy];rfl
 ·simp only [pK,h1,h2,cg,cC]
 ·simp only [pK,h1,cC]
theorem arR{l:List OB}{en:Int}(hi:i=xs.length)(hl:ls.length<=900):bM Vi [iI (i:Int),jM l ls en,J (aU e),er (xs.map bW),jM l ls en]
 (0,[jM l ls en,J (aU e),er (xs.map bW),jM l (pK e i ls xs) en]):=by
 refine bU av5 ?_;rw [Kk,eG];refine av (λh1=>av (λh2=> ?_) λh2=>af ?_) λh1=>af ?_
 ·have h3:(i:Int)=1:=by simpa using h2
  obtain⟨x,hx⟩:∃x,xs=[x]:=ajx;subst hx;refine aH ?_ (aH rfl (aH rfl (aH ?_ (af ?_))))
  ·show decide ((0+(ls.map bW).length)*48<=140737488355328)=true;rw [eE];simp;omega
  ·show decide ((([]++ls.map bW).length +1)*48<=140737488355328)=true;rw [mb,eE];simp;omega
  ·simp only [pK,h1,h2,cg,jM,oy];rfl
 ·simp only [pK,h1,h2,cg,cC];rfl
 ·simp only [pK,h1,cC];rfl
theorem ajX:∀{l:List CE} {y:CE},y∈l->mV y<=nG l
 |x::xs,y,h=>by
  simp only [nG];rcases gN.1 h with rfl|h
  ·omega
  ·have:=ajX h;omega
section
variable {l:List OB} (ol:OL l) (en:Int)
inductive xj(n:Nat):CE->Prop
 |mk(e:CE)(h:(e.kind==2||e.kind==3||e.kind==12)=true->ib e.O n=true)(hk:∀y∈e.L,xj n y):xj n e
def Y0(l:List OB)(en:Int)(e:CE):Prop:=∀la lb:List SO,RL l.length la lb->la.length+mV e<=900->∃s t b,
 Ev HC [nI l en,J (aU e),dL (la.map bW)] (0,[J (bW s),ak b])∧Ev Iw [jM l lb en,J (aU e)] (0,[J (bW t),ak b])∧(b=true->RI l.length s t∧xj l.length e)
theorem aD2:(pK e i ls xs).length <=ls.length+1:=by
 unfold pK;cases e.kind==10<;>cases(i:Int)==1<;>simp
theorem aFq{n:Nat}{ys:List SO}(h:RL n la lb)(hx:RL n xs ys)(hi:i=xs.length):RL n (pK e i la xs) (pK e i lb ys):=by
 unfold pK;cases e.kind==10 with
 |false=>exact h
 |true=>
  cases h2:(i:Int)==1 with
  |false=>exact h
  |true=>
   have h3:(i:Int)=1:=pU;have hl:=hx.len;have:=hx.at (i:=0) (by omega) (by omega);refine h.snoc ?_;rw [mY,mY,dz (by omega),dz (by omega)];exact this
theorem elems(bB:e.Ok)(hn:e.L.length<=1000)(ih:∀y∈e.L,Y0 l en y)(A1:RL l.length la lb)(hd:la.length+mV e<=900):
 (∃xs ys,RL l.length xs ys∧xs.length=e.L.length∧(∀y∈e.L,xj l.length y)∧
   bP vU [dL (la.map bW),aT (e.L.map aU),iI (ln (e.L.map aU)),iI 0,nI l en,J (aU e),J z4,dL [],aa []]
    (1,[nI l en,J (aU e),J z4,dL (xs.map bW),aa []])∧
   bP vW [iI 0,jM l lb en,J (aU e),J z4,er [],aa []]
    (1,[jM l lb en,J (aU e),J z4,er (ys.map bW),aa []]))∨
 (bP vU [dL (la.map bW),aT (e.L.map aU),iI (ln (e.L.map aU)),iI 0,nI l en,J (aU e),J z4,dL [],aa []]
     (0,[aq,nI l en,J (aU e),J z3,aa []])∧
   bP vW [iI 0,jM l lb en,J (aU e),J z4,er [],aa []]
    (0,[aq,jM l lb en,J (aU e),J z3,aa []])):=by
 have Lb:=A1.len;have h:=fD (m:=e.L.length) (P:=λi=>∀us vs,RL l.length us vs->us.length=i->
  (∃xs ys,RL l.length xs ys∧xs.length=e.L.length∧(∀y∈e.L.drop i,xj l.length y)∧
    bP vU [dL (la.map bW),aT (e.L.map aU),iI (ln (e.L.map aU)),iI (i:Int),nI l en,J (aU e),J z4,dL (us.map bW),aa []]
     (1,[nI l en,J (aU e),J z4,dL (xs.map bW),aa []])∧
    bP vW [iI (i:Int),jM l lb en,J (aU e),J z4,er (vs.map bW),aa []]
     (1,[jM l lb en,J (aU e),J z4,er (ys.map bW),aa []]))∨
  (bP vU [dL (la.map bW),aT (e.L.map aU),iI (ln (e.L.map aU)),iI (i:Int),nI l en,J (aU e),J z4,dL (us.map bW),aa []]
      (0,[aq,nI l en,J (aU e),J z3,aa []])∧
    bP vW [iI (i:Int),jM l lb en,J (aU e),J z4,er (vs.map bW),aa []]
     (0,[aq,jM l lb en,J (aU e),J z3,aa []])))
  (λus vs KV hu=> .inl ⟨us,vs,KV,hu,by rw [gp];simp,bF abL (aC dU (af (by rw [eG];rfl))),
    bF adl (aC (Yh) (af (by rw [eG];rfl)))⟩)
  λi hi fb us vs KV hu=>by
   have y4:=KV.len;have tc:=ajX (dO hi);have lV:=Jq e;have hal:=aD2 (e:=e) (i:=i) (ls:=la) (xs:=us);obtain⟨s,t,b,h1,h2,h3⟩:=ih e.L[i] (dO hi) (pK e i la us) (pK e i lb vs) (aFq A1 KV hu.symm) (by omega);have cr:∀r,E (λN m=>bif !(gB (0,[J (bW s),ak b]).2 1)then some (0,[aq,nI l en,J (aU e),J z3,aa []])else vU (FU CX EE N) N m [dL (la.map bW),aT (e.L.map aU),iI (ln (e.L.map aU)),iI ((i+1:Nat):Int),nI l en,J (aU e),J z4,dL ((us++[s]).map bW),aa []]) r->
    bP vU [dL (la.map bW),aT (e.L.map aU),iI (ln (e.L.map aU)),iI (i:Int),nI l en,J (aU e),J z4,dL (us.map bW),aa []] r:=λr hr=>by
    refine bF abL (bu (dr hi) (aH (cH hi) ?_));rw [eG];refine aj (arC hu.symm (by omega)) ?_;rw [su hi,ix hi bB.len,show gC (0,[dL ((pK e i la us).map bW),J (aU e),dL (us.map bW)]).2 1=aU e from rfl,eG];refine aj h1 ?_;rw [oy]at hr;cases b with
    |false=>exact hr
    |true=>
     refine bj (aH ?_ hr);show decide (((us.map bW).length +1)*48<=140737488355328)=true;exact wG
   have rr:∀r,E (λN m=>bif !(gB (0,[J (bW t),ak b]).2 1)then some (0,[aq,jM l lb en,J (aU e),J z3,aa []])else vW (FU CX EE N) N m [iI ((i+1:Nat):Int),jM l lb en,J (aU e),J z4,er ((vs++[t]).map bW),aa []]) r->
    bP vW [iI (i:Int),jM l lb en,J (aU e),J z4,er (vs.map bW),aa []] r:=λr hr=>by
    refine bF adl (bu (by rw [tZ];exact dr hi) ?_);rw [eG];refine aj (arR (l:=l) (en:=en) (e:=e) (i:=i) (ls:=lb) (xs:=vs) (by omega) (by omega)) ?_;rw [show gC (0,[jM l lb en,J (aU e),er (vs.map bW),jM l (pK e i lb vs) en]).2 1=aU e from rfl,tZ,eG];refine aH (cH hi) ?_;rw [su hi,ix hi bB.len];refine aj h2 ?_;rw [oy]at hr;cases b with
    |false=>exact hr
    |true=>
     refine bj (aH ?_ hr);show decide (((vs.map bW).length +1)*48<=140737488355328)=true;exact wG
   cases b with
   |false=>exact .inr ⟨cr _ (aX aL),rr _ (aX aL)⟩
   |true=>
    rcases fb (us++[s]) (vs++[t]) (KV.snoc (h3 rfl).1) (by simp [hu])with⟨xs,ys,q1,q2,q0,q3,q4⟩|⟨q1,q2⟩
    ·refine .inl ⟨xs,ys,q1,q2,λy hy=> ?_,cr _ (bj q3),rr _ (bj q4)⟩;rw [gF hi]at hy;rcases gN.1 hy with rfl|hy
     ·exact(h3 rfl).2
     ·exact q0 y hy
    ·exact .inr ⟨cr _ (bj q1),rr _ (bj q2)⟩
 exact h [] [] .nil rfl
end
end
end Go.Proofs.YtomkobcipaligaaGreatDoor
namespace Go.az
def sq{p:Prop}(h:p:=by rw [dq];simp;omega):p:=h
def oC{p:Prop}(h:p:=by kernel_rfl):p:=h
end Go.az
namespace Go.az
def Xx:=@List.map_set
def IG:=@List.pairwise_iff_getElem
def OX:=@List.getElem_take
def OW:=@List.getElem_of_mem
def ags:=@List.pairwise_singleton
def agr:=@List.drop_eq_nil_of_le
def BQ:=@List.length_replicate
def Xw:=@List.take_append_of_le_length
end Go.az
namespace Go.Proofs.YtomkobcipaligaaGreatDoor
open Go Go.az
section
variable{i:Nat}{l:cT}
def aew:∀l:cT,B9 (nY l)=some l
 | []=>rfl
 |x::l=>by
  show(match B9 (nY l)with|some l'=>some (x::l')|none=>none)=_;rw [aew l]
def aEd(N:Nat):FU CX EE (N+24) L4 [aa []]=some (0,[aa []]):=oC
def aD6:EE[L4]?=some L5:=oC
def aAy(z:Int)(zs:cT):Cw L5 [aa (nY (z::zs))]=match B9 (nY (z::zs))with|some l=>aP (Nat.ble l.length 4611686018427387903) (some (0,[.ab 3 (nY (nh l))]))|none=>none:=oC
def aFC(hl:l.length<=mx):Ev L4 [aa (ints l)] (0,[aa (ints (nh l))]):=by
 cases l with
 |nil=>
  refine⟨24,λN _ h _=> ?_⟩;obtain⟨M,rfl⟩:∃M,N=M+24:=⟨N- 24,by omega⟩;have:nh []=[]:=List.mergeSort_nil;rw [this];exact aEd M
 |cons z zs=>
  refine alh (g:=λ_=>some (0,[aa (ints (nh (z::zs)))])) (λN=> ?_) aL;unfold ca;rw [aD6];show(match Cw L5 [aa (nY (z::zs))]with|some o=>some o|none=>_)=_;rw [aAy,aew];show(match aP (Nat.ble (z::zs).length 4611686018427387903) (some (0,[AV.ab 3 (nY (nh (z::zs)))]))with|some o=>some o|none=>_)=_;rw [show Nat.ble (z::zs).length 4611686018427387903=true from Nat.ble_eq_true_of_le (by simp only [mx]at hl;omega)];rfl
def aeR(l:cT):(nh l).Perm l:=List.mergeSort_perm l _
def ayy(l:cT):(nh l).Pairwise (·<= ·):=by
 have:=List.pairwise_mergeSort (le:=λx y:Int=>decide (x<=y)) (λa b c h1 h2=>by simp at*;omega) (λa b=>eh) l;exact this.imp λh=>lJ
def toNl{o:Int}{n:Nat}(h:ib o n=true):decide (o.toNat<n)=true:=by have:=jf.1 h;simp;omega
def gi(h:i<l.length):gI (gA (ints l) i) 0=l[i]:=by
 rw [Qx h,mY,dz h];rfl
def aEm(h:i<l.length)(v:Int):(ints l).set i (setAt (gA (ints l) i) 0 [iI v])=ints (l.set i v):=by
 rw [sf h];show(l.map _).set i [iI v]=(l.set i v).map _;rw [Xx]
def Cpt(l r:cT):Prop:=r.Nodup∧∀x,x∈r ↔ x∈l
def af8{r:cT}(h:r.Pairwise (·< ·)):r.Nodup:=h.imp λh e=>by omega
def aNy(hl:l.length<=mx)(hs:l.Pairwise (·<= ·)){k:Nat}(hk:k<l.length):∀(m k2:Nat),k+k2+m=l.length->1<=k2->∀(X R:cT),X.length=l.length->(∀j,k+k2- 1<=j->j<l.length->X[j]?=l[j]?)->X.take R.length=R->R.length<=k+k2- 1->R.Pairwise (·< ·)->(∀x,x∈R ↔ x∈l.take (k+k2))->∃X' R':cT,X'.length=l.length∧X'.take R'.length=R'∧R'.length<=l.length∧Cpt l R'∧
 bP DR [iI (R.length:Int),.vw 0 k (l.length- k),iI (k2:Int),aa (ints X)] (0,[iI (R'.length:Int),aa (ints X')]):=by
 intro m;simp only [mx]at hl
 induction m with
 |zero=>
  intro k2 hm h1 X R hX hj hR hRl Sp Ln;refine⟨X,R,hX,hR,by omega,⟨af8 Sp,λx=>by rw [Ln,BS (by omega)]⟩,?_⟩;refine bF abr (aC ?_ aL);exact eh
 |succ m ih=>
  intro k2 hm h1 X R hX hj hR hRl Sp Ln;have KU:bx ((k2:Int)- 1)=((k2- 1:Nat):Int):=uX;have sZ:k+k2<X.length:=by omega
  have ze:k+(k2- 1)<X.length:=by omega
  have cF:k+k2<l.length:=by omega
  have pD:X[k+k2]=l[k+k2]:=by
   have:=hj (k+k2) (by omega) cF;rw [dz sZ,dz cF]at this;injection this
  have AO:X[k+(k2- 1)]=l[k+(k2- 1)]:=by
   have:=hj (k+(k2- 1)) (by omega) (by omega);rw [dz ze,dz (by omega)]at this;injection this
  have hle:l[k+(k2- 1)]<=l[k+k2]:=IG.1 hs _ _ (by omega) cF (by omega);have AT:l.take (k+k2+1)=l.take (k+k2)++[l[k+k2]]:=by rw [BR,dz cF];rfl
  have iy:l[k+(k2- 1)]∈l.take (k+k2):=by
   have:l[k+(k2- 1)]=(l.take (k+k2))[k+(k2- 1)]'(X9):=by rw [OX]
   rw [this];exact dO _
  have AQ:∀x∈R,x<=l[k+(k2- 1)]:=λx hx=>by
   have hx:=(Ln x).1 hx;obtain⟨i,hi,rfl⟩:=OW hx;rw [oT]at hi;rw [OX]
   by_cases he:i=k+(k2- 1)
   ·subst he;exact sa _
   ·exact IG.1 hs _ _ (by omega) (by omega) (by omega)
  have t0:decide ((k2:Int)<((l.length- k:Nat):Int))=true:=eh;have t1:(decide (0<=(k2:Int))&&decide ((k2:Int)<((l.length- k:Nat):Int)))=true:=eh;have t2:decide (k+((k2:Int)).toNat <(ints X).length)=true:=by rw [mE,eE];simpa using sZ
  have t3:(decide (0<=((k2- 1:Nat):Int))&&decide (((k2- 1:Nat):Int)<((l.length- k:Nat):Int)))=true:=eh;have t4:decide (k+(((k2- 1:Nat):Int)).toNat <(ints X).length)=true:=by rw [mE,eE];simpa using ze
  have hnx:bx ((k2:Int)+1)=((k2+1:Nat):Int):=uX;have C:∀r:UO,_->bP DR [iI (R.length:Int),.vw 0 k (l.length- k),iI (k2:Int),aa (ints X)] r:=λr h=>by
   refine bF abr ?_;rw [KU];refine bu t0 (aH t1 (aH t2 (aH t3 (aH t4 ?_))));rw [mE,mE,gi sZ,gi ze,pD,AO,hnx];exact h
  by_cases he:l[k+k2]=l[k+(k2- 1)]
  ·obtain⟨X',R',q1,q2,q3,q4,q5⟩:=ih (k2+1) (by omega) (by omega) X R hX (λj h1 h2=>hj j (by omega) h2) hR (by omega) Sp λx=>by
    rw [<-Nat.add_assoc,AT,jO,Ln];constructor
    ·exact λh=> .inl h
    ·rintro(h|h)
     ·exact h
     ·simp at h;subst h;rw [he];exact iy
   exact⟨X',R',q1,q2,q3,q4,C _ (aC (xQ) q5)⟩
  ·have Sq:R.length<X.length:=by omega
   have aEW:(X.set R.length l[k+k2]).take (R.length+1)=R++[l[k+k2]]:=by
    rw [BR,qu Sq];rw [List.take_set_of_le (gz _),hR];rfl
   obtain⟨X',R',q1,q2,q3,q4,q5⟩:=ih (k2+1) (by omega) (by omega) (X.set R.length l[k+k2]) (R++[l[k+k2]]) (by simp [hX]) (λj h1 h2=>by
    rw [kh (by omega)];exact hj j (by omega) h2) (by rw [fy];exact aEW) (eh)
    (by
      rw [List.pairwise_append];refine⟨Sp,ags _ _,λa ha b hb=> ?_⟩;simp at hb;subst hb;have:=AQ a ha;omega) λx=>by
    rw [<-Nat.add_assoc,AT,jO,jO,Ln]
   have yt:=aEm (l:=X) Sq l[k+k2];refine⟨X',R',q1,q2,q3,q4,C _ (bu (xQ) (aH t1 (aH t2 (aH (c:=ib (R.length:Int) (ints X).length) (by rw [eE];exact qw Sq) (aH (by rw [mE,eE];simpa using Sq) ?_)))))⟩;have vL:bx ((R.length:Int)+1)=((R.length+1:Nat):Int):=uX;rw [mE,yt,vL];rw [fy]at q5;exact q5
def aNx(hl:l.length<=mx)(hs:l.Pairwise (·<= ·)):∀(m k:Nat),k+m=l.length->1<=k->(l.take k).Pairwise (·< ·)->∃r:cT,Cpt l r∧∃q,bP Hh [iI (k:Int),aa (ints l)] (q,[aa (ints r)]):=by
 intro m;have vM:=hl;simp only [mx]at hl
 induction m with
 |zero=>
  intro k hk h1 hp;rw [BS (by omega)]at hp;exact⟨l,⟨af8 hp,λx=>Iff.rfl⟩,1,bF abu (aC (sq) aL)⟩
 |succ m ih=>
  intro k hk h1 hp;have qi:k<l.length:=by omega
  have Sg:k- 1<l.length:=by omega
  have KU:bx ((k:Int)- 1)=((k- 1:Nat):Int):=uX;have fp:ib (k:Int) (ints l).length =true:=by rw [eE];exact qw qi
  have anL:ib ((k- 1:Nat):Int) (ints l).length =true:=by rw [eE];exact qw Sg
  have hle:l[k- 1]<=l[k]:=IG.1 hs _ _ Sg qi (by omega);have nN:ln (ints l)=(l.length:Int):=by rw [dq]
  have t0:decide ((k:Int)<(l.length:Int))=true:=eh;have C:∀r:UO,_->bP Hh [iI (k:Int),aa (ints l)] r:=λr h=>by
   refine bF abu ?_;rw [KU,nN];refine bu t0 (aH fp (aH (toNl fp) (aH anL (aH (toNl anL) ?_))));rw [mE,mE,gi qi,gi Sg];exact h
  by_cases he:l[k]=l[k- 1]
  ·have hR:(l.take k).length =k:=by rw [oT];omega
   obtain⟨X',R',q1,q2,q3,q4,q5⟩:=aNy vM hs qi (m) 1 (by omega) (by omega) l (l.take k) rfl (λj _ _=>rfl) (by rw [hR]) (by rw [hR];omega) hp λx=>by
    rw [BR,dz qi,jO];constructor
    ·exact λh=> .inl h
    ·rintro(h|h)
     ·exact h
     ·simp at h;subst h;rw [he];have:l[k- 1]=(l.take k)[k- 1]'(X9):=by rw [OX]
      rw [this];exact dO _
   rw [hR]at q5;refine⟨R',q4,0,C _ (bu (xQ) (aH (eh) ?_))⟩;rw [show(ints l).length - k=l.length- k by rw [eE]];refine aj q5.diag ?_;have hc:pI [iI 0] (ints X') R'.length ((ints X').length - R'.length)=ints R'++List.replicate ((ints X').length - R'.length) [iI 0]:=by
    unfold pI sN;rw [show(ints X').take R'.length=ints R' by
     show(X'.map _).take _=_;rw [<-List.map_take,q2]]
    rw [agr (by rw [BQ,eE,q1];omega),zG]
   have eL:(pI [iI 0] (ints X') R'.length ((ints X').length - R'.length)).length =l.length:=by
    rw [hc,fy,BQ,eE,eE,q1];omega
   have l1:ln (ints X')=(l.length:Int):=by rw [dq,q1]
   have l2:ln (pI [iI 0] (ints X') R'.length ((ints X').length - R'.length))=(l.length:Int):=by show((_:Nat):Int)=_;rw [eL]
   show E (λN _=>aP (decide (0<=(R'.length:Int))&&decide ((R'.length:Int)<=ln (ints X'))&&decide (ln (ints X')<=ln (ints X')))<|aP (decide (0<=(R'.length:Int))&&decide ((R'.length:Int)<=ln (pI ([iI 0]) (ints X') (((R'.length:Int)).toNat) (((ints X').length)-(((R'.length:Int)).toNat))))&&decide (ln (pI ([iI 0]) (ints X') (((R'.length:Int)).toNat) (((ints X').length)-(((R'.length:Int)).toNat)))<=ln (pI ([iI 0]) (ints X') (((R'.length:Int)).toNat) (((ints X').length)-(((R'.length:Int)).toNat)))))<|some (0,[aa ((pI ([iI 0]) (ints X') (((R'.length:Int)).toNat) (((ints X').length)-(((R'.length:Int)).toNat))).take (((R'.length:Int)).toNat))])) _;rw [mE,l1,l2];refine aH (eh) (aH (eh) (af ?_));rw [hc,Xw (by simp),BS (by simp)]
  ·have AU:(l.take (k+1)).Pairwise (·< ·):=by
    rw [BR,dz qi];show(l.take k++[l[k]]).Pairwise _;rw [List.pairwise_append];refine⟨hp,ags _ _,λa ha b hb=> ?_⟩;simp at hb;subst hb;obtain⟨i,hi,rfl⟩:=OW ha;rw [oT]at hi;rw [OX];have:l[i]<=l[k- 1]:=by
     by_cases h:i=k- 1
     ·subst h;exact sa _
     ·exact IG.1 hs _ _ (by omega) Sg (by omega)
    omega
   obtain⟨r,r1,q,r2⟩:=ih (k+1) (by omega) (by omega) AU;refine⟨r,r1,q,C _ (aC (xQ) ?_)⟩;rw [jv (by omega) (by omega)];exact r2
def aNt(hl:l.length<=mx)(hs:l.Pairwise (·<= ·)):∃r:cT,Cpt l r∧Ev S7 [aa (ints l)] (0,[aa (ints r)]):=by
 by_cases h2:l.length<2
 ·refine⟨l,⟨?_,λx=>Iff.rfl⟩,bz abz (bu (sq) aL)⟩
  match l,h2 with
  | [],_=>exact v8
  | [x],_=>simp
  |_::_::_,h=>simp at h;omega
 ·obtain⟨r,r1,q,r2⟩:=aNx hl hs (l.length- 1) 1 (by omega) (by omega) (by
   match l,h2 with
   |x::xs,_=>simp
   | [],h=>simp at h)
  exact⟨r,r1,bz abz (aC (sq) (aj r2.diag (av (λ_=>aL) λ_=>aL)))⟩
end
end Go.Proofs.YtomkobcipaligaaGreatDoor
namespace Go.az
def B3{p:Prop}(h:p:=by rw [he];rfl):p:=h
end Go.az
namespace Go.Proofs.YtomkobcipaligaaGreatDoor
open Go Go.az
section
variable{i:Int}{x:SO}
abbrev zE(p:Bool)(k:Nat):AV:= J [ak p,aq,.aA k,iI 0,iI 0]
abbrev Dj(a b:SO):AV:= dL [bW a,bW b]
abbrev pC(l:cT):AV:= aa (ints l)
variable {a b:SO}
def eiJ:bM Vu [J (bW a),J (bW b),zE false 3,pC []]
 (bif !a.ptr&& !b.ptr then(1,[cu,J (bW a),J (bW b),J [aq,aq,.aA 3,iI (nk a.lo b.lo),iI (imax a.hi b.hi)],pC []])else(0,[J (bW a),J (bW b),zE false 3,pC []])):=by
 refine bU awi ?_;cases ha:a.ptr with
 |true=>exact aC (by show(!a.ptr)=false;rw [ha];rfl) aL
 |false=>
  refine bu (by show(!a.ptr)=true;rw [ha];rfl) ?_;cases hb:b.ptr with
  |true=>exact aC (by show(!b.ptr)=false;rw [hb];rfl) aL
  |false=>exact bu (by show(!b.ptr)=true;rw [hb];rfl) aL
def aFd(acc:cT):bP uD [iI 2,iI 2,zE false 3,zE true 4,Dj a b,pC [],pC acc] (1,[zE false 3,zE true 4,Dj a b,pC [],pC acc]):=
 bF Ud (bj aL)
def ala(hi:0<=i)(h2:i<2)(hx:gA [bW a,bW b] i.toNat=bW x)(hp:x.ptr=false)(hn:x.null=false)(acc:cT):
 bP uD [iI 2,iI i,zE false 3,zE true 4,Dj a b,pC [],pC acc] (0,[aq,J [aq,aq,.aA 3,iI 0,iI 0],zE true 4,Dj a b,pC [],pC acc]):=by
 have fp:ib i [bW a,bW b].length =true:=jf.2 ⟨hi,pU⟩;refine bF Ud (bu (pU) (aH fp (aH (toNl fp) ?_)));rw [hx];exact bu (by show(!x.ptr)=true;rw [hp];rfl) (bu (by show(!x.null)=true;rw [hn];rfl) aL)
def YX{j:Int}(hi:0<=i)(h2:i<2)(hj:bx (i+1)=j)(hx:gA [bW a,bW b] i.toNat=bW x)(hp:(x.ptr||x.null)=true){acc:cT}(hl:acc.length+x.set.length<=mx){r:UO}
 (h:bP uD [iI 2,iI j,zE false 3,zE true 4,Dj a b,pC [],pC (acc++bif x.ptr then x.set else [])] r):
 bP uD [iI 2,iI i,zE false 3,zE true 4,Dj a b,pC [],pC acc] r:=by
 have fp:ib i [bW a,bW b].length =true:=jf.2 ⟨hi,pU⟩;refine bF Ud (bu (pU) (aH fp (aH (toNl fp) ?_)));rw [hx,hj];have hs:ints acc++gR (bW x) 2=ints (acc++x.set):=(oy).symm;cases hq:x.ptr with
 |true=>
  rw [hq]at h;refine aC (by show(!x.ptr)=false;rw [hq];rfl) (bu hq (aH ?_ ?_))
  ·show decide (((ints acc).length +(ints x.set).length)*8<=_)=true;rw [eE,eE];simp only [mx]at hl;simp;omega
  ·rw [hs];exact h
 |false=>
  rw [hq]at h hp;refine bu (by show(!x.ptr)=true;rw [hq];rfl) (aC (by show(!x.null)=false;simp at hp;rw [hp];rfl) (aC hq ?_));rw [show acc++(bif false then x.set else [])=acc from zG _]at h;exact h
def aFc:ml:=by
 intro n hn a b ha hb;have la:=ha.len;have lb:=hb.len;have m4:(4096:Nat)<=mx:=Fz;have C:∀r:UO,_->Ev H3 [J (bW a),J (bW b)] r:=λr h=>bz ayg (aj (eiJ (a:=a) (b:=b)) h);cases hz:(!a.ptr&& !b.ptr)with
 |true=>
  rw [hz]at C;have h1:a.ptr=false:=by simp at hz;exact hz.1
  have h2:b.ptr=false:=by simp at hz;exact hz.2
  have he:oF a b=true:=by unfold oF;rw [hz];rfl
  refine⟨⟨false,false,[],nk a.lo b.lo,imax a.hi b.hi⟩,C _ (bj (af ?_)),λ_=>⟨O4 rfl,?_⟩⟩
  ·exact B3
  ·exact⟨Fs,rfl,Fs,Fs,λx=>by simp [h1,h2]⟩
 |false=>
  rw [hz]at C;have he:oF a b=((a.ptr||a.null)&&(b.ptr||b.null)):=by unfold oF;rw [hz];rfl
  have hpp:(a.ptr||b.ptr)=true:=by cases h:a.ptr<;>cases h':b.ptr<;>simp_all
  have C2:∀(o r:UO),bP uD [iI 2,iI 0,zE false 3,zE true 4,Dj a b,pC [],pC []] o->_->Ev H3 [J (bW a),J (bW b)] r:=λo r h h'=>C r (aX (aj h.diag h'));cases hA:(a.ptr||a.null)with
  |false=>
   have h1:a.ptr=false:=by simp at hA;exact hA.1
   have h2:a.null=false:=by simp at hA;exact hA.2
   refine⟨kf,C2 _ _ (ala (i:=0) (by omega) (by omega) rfl h1 h2 []) (aX (af ?_)),λh=> ?_⟩
   ·rw [he,hA];rfl
   ·rw [he,hA]at h;cases h
  |true=>
   have hU:(bif a.ptr then a.set else []).length <=n:=by cases a.ptr<;>simp;omega
   cases hB:(b.ptr||b.null)with
   |false=>
    have h1:b.ptr=false:=by simp at hB;exact hB.1
    have h2:b.null=false:=by simp at hB;exact hB.2
    refine⟨kf,C2 _ _ (YX (i:=0) (j:=1) (by omega) (by omega) rfl rfl hA (eh) (ala (i:=1) (by omega) (by omega) rfl h1 h2 _)) (aX (af ?_)),λh=> ?_⟩
    ·rw [he,hA,hB];rfl
    ·rw [he,hA,hB]at h;cases h
   |true=>
    obtain⟨X,hX⟩:∃X,X=([]++(bif a.ptr then a.set else []))++(bif b.ptr then b.set else []):=⟨_,rfl⟩;have y6:(bif b.ptr then b.set else []).length <=n:=by cases b.ptr<;>simp;omega
    have lX:X.length<=mx:=by rw [hX];simp only [mb,fy];omega
    have lp:=YX (a:=a) (b:=b) (i:=0) (j:=1) (by omega) (by omega) rfl rfl hA (acc:=[]) (eh) (YX (i:=1) (j:=2) (by omega) (by omega) rfl rfl hB (by simp only [mb];omega) (aFd _));rw [<-hX]at lp;obtain⟨r,r1,r2⟩:=aNt (l:=nh X) (by rw [(aeR X).length_eq];exact lX) (ayy X);have hm:∀x,x∈r ↔ (a.ptr=true∧x∈a.set)∨(b.ptr=true∧x∈b.set):=λx=>by
     rw [r1.2,(aeR X).mem_iff,hX];cases a.ptr<;>cases b.ptr<;>simp
    have hE:yF a b ⟨true,false,r,0,0⟩:=⟨hpp.symm,rfl,by rw [hpp];rfl,by rw [hpp];rfl,hm⟩;refine⟨⟨true,false,r,0,0⟩,C2 _ _ lp (bj (aj (aFC lX) (aj r2 (af ?_)))),λ_=>⟨⟨r1.1,hE.jj ha hb⟩,hE⟩⟩;rw [he,hA,hB];rfl
end
end Go.Proofs.YtomkobcipaligaaGreatDoor
namespace Go.az
def ajf{p:Prop}(h:p:=by
 unfold lP at hf;simp only [bS]at hf;exact hf.1.1.1.1.1.1.1):p:=h
end Go.az
namespace Go.Proofs.YtomkobcipaligaaGreatDoor
open Go Go.az
section
variable{e:CE}{r:UO}
section
variable {l:List OB} (en:Int)
theorem afX{la xs:List SO}(hf:lP e=true)
 (hl:bP vU [dL (la.map bW),aT (e.L.map aU),iI (ln (e.L.map aU)),iI 0,nI l en,J (aU e),J z4,dL [],aa []] r):
 bM L9 [dL (la.map bW),nI l en,J (aU e),J z4,dL [],aa []]
  (bif Nat.beq r.1 0 then(1,[ak (gB r.2 0),J [bJ (gR (gC r.2 1) 0),iI (gI (gC r.2 1) 1)],J (nz (gC r.2 2)),J (sT (eT (gC r.2 3)) oe),aa (gR r.2 4)])
    else(0,[J [bJ (gR (gC r.2 0) 0),iI (gI (gC r.2 0) 1)],J (nz (gC r.2 1)),J (sT (eT (gC r.2 2)) nm),dL (gR r.2 3),aa (gR r.2 4)])):=by
 refine bU aro ?_;rw [tZ,eG];refine aj hl.diag (av (λh=>af (fY)) λh=>af (fY))
theorem afW{lb:List SO}
 (hl:bP vW [iI 0,jM l lb en,J (aU e),J z4,er [],aa []] r):
 bM Nu [jM l lb en,J (aU e),J z4,er [],aa []]
  (bif Nat.beq r.1 0 then(1,[ak (gB r.2 0),J (UN (gC r.2 1)),J (nz (gC r.2 2)),J (sT (eT (gC r.2 3)) oe),aa (gR r.2 4)])
    else(0,[J (UN (gC r.2 0)),J (nz (gC r.2 1)),J (sT (eT (gC r.2 2)) nm),er (gR r.2 3),aa (gR r.2 4)])):=by
 refine bU ax7 ?_;rw [eG];refine aj hl.diag (av (λh=>af (fY)) λh=>af (fY))
theorem aFr(hf:lP e=true){k:Int}(hk:e.kind=k):(fg (.mk k e.op e.N e.O e.off e.len e.lo e.hi e.L)).2 =(e.L.length:Int):=by
 have h1:((fg e).2 ==(e.L.length:Int))=true:=ajf;rw [<-eq_of_beq h1,<-hk,<-CE.eta]
end
end
end Go.Proofs.YtomkobcipaligaaGreatDoor
namespace Go.az
def JE{p:Prop}(h:p:=by
 cases ha:decide (0<=o)<;>rw [ha]at hs
 ·cases hs
 cases hb:decide (o<(l.length:Int))<;>rw [hb]at hs
 ·cases hs
 exact sr ha hb):p:=h
def aks{p:Prop}(h:p:=by
 show(0,[J [ak (gB (gA (cf l) o.toNat) 3),aq,aa (gR (gA (cf l) o.toNat) 4),iI (gI (gA (cf l) o.toNat) 1),iI (gI (gA (cf l) o.toNat) 2)],cu])=_;rw [lM hi];rfl):p:=h
def ajI{p:Prop}(h:p:=by
 cases h66:k==6 with
 |true=>rw [eq_of_beq h66];rfl
 |false=>rw [h66]at h6;rw [eq_of_beq (show(k==7)=true from h6)];rfl):p:=h
def ajG{p:Prop}(h:p:=by
 rw [lM hi];exact aH dV (av (c:= !(cM l o).ptr) (λh=>aH dV (af (by rw [hi,h];rfl))) λh=>af (by rw [hi,h];rfl))):p:=h
def PY{p:Prop}(h:p:=by have:(1:Int)=(xs.length:Int):=ar;omega):p:=h
def aip{p:Prop}(h:p:=by show ib o (cf l).length =true;rw [pb];exact hi):p:=h
def Ye{p:Prop}(h:p:=by rw [eq_of_beq h1];rfl):p:=h
def ahz{p:Prop}(h:p:=by have:(2:Int)=(xs.length:Int):=ar;omega):p:=h
end Go.az
namespace Go.Proofs.YtomkobcipaligaaGreatDoor
open Go Go.az
section
variable{xs ys:List SO}{n:Nat}
def ahf(k:Int):bM S4 [bE k] (0,[ak (bif k==6 then true else k==7)]):=
 bU apC (av (λh=>af (fY)) λh=>af (fY))
def ahe(k:Int):bM Uz [bE k] (0,[ak (bif k==6 then true else k==7)]):=
 bU atM (av (λh=>af (fY)) λh=>af (fY))
def IW(h:RL n xs ys)(hl:xs.length=1):∃x y,xs=[x]∧ys=[y]∧RI n x y:=by
 cases h with
 |nil=>simp at hl
 |cons h t=>cases t with
  |nil=>exact⟨_,_,rfl,rfl,h⟩
  |cons=>simp at hl
def Pb(h:RL n xs ys)(hl:xs.length=2):∃x y x1 y1,xs=[x,x1]∧ys=[y,y1]∧RI n x y∧RI n x1 y1:=by
 cases h with
 |nil=>simp at hl
 |cons h t=>
  obtain⟨x1,y1,rfl,rfl,h1⟩:=IW t (oZ);exact⟨_,_,_,_,rfl,rfl,h,h1⟩
def aA3(h:RL n xs ys)(hl:xs.length=3):∃x y x1 y1 x2 y2,xs=[x,x1,x2]∧ys=[y,y1,y2]∧RI n x y∧RI n x1 y1∧RI n x2 y2:=by
 cases h with
 |nil=>simp at hl
 |cons h t=>
  obtain⟨x1,y1,x2,y2,rfl,rfl,h1,h2⟩:=Pb t (oZ);exact⟨_,_,_,_,_,_,rfl,rfl,h,h1,h2⟩
def aEc(hE:ml){l:List OB}(ol:OL l)(en:Int):∀e:CE,e.Ok->Y0 l en e:=by
 refine CE.ind λe ih bB=> ?_;intro la lb A1 hd;have Lb:=A1.len;cases hf:lP e with
 |false=>
  have hJ:=an6 e z3;have hR:=an5 e;rw [hf]at hJ hR;refine⟨kf,kf,false,bz Uh ?_,bz Wt ?_,λh=>bh⟩
  ·rw [eG];refine aj (exC e) ?_;rw [show gC (0,[J (aU (fg e).1),iI (fg e).2]).2 0=aU (fg e).1 from rfl,eG];exact aj hJ (bj aL)
  ·rw [eG];exact aj hR (aX aL)
 |true=>
  have hJ:=an6 e z3;have hR:=an5 e;rw [hf]at hJ hR;have hn:e.L.length<=1000:=by
   have h1:((fg e).2 ==(e.L.length:Int))=true:=ajf;have h2:(fg e).2 <=3:=by
    unfold fg;generalize kN e.kind=b1;generalize (e.kind==2)=b2;generalize (e.kind==3)=b3;generalize (e.kind==4)=b4;generalize (e.kind==5)=b5;generalize kT e.kind=b6;generalize (e.kind==8)=b7;generalize (e.kind==9)=b8;generalize (e.kind==12)=b9;generalize (e.kind==13)=b10;cases b1<;>simp only [cg,cC]
    ·cases b2<;>simp only [cg,cC]
     ·cases b3<;>simp only [cg,cC]
      ·cases b4<;>simp only [cg,cC]
       ·cases b5<;>simp only [cg,cC]
        ·cases b6<;>simp only [cg,cC]
         ·cases b7<;>simp only [cg,cC]
          ·cases b8<;>simp only [cg,cC]
           ·cases b9<;>simp only [cg,cC]
            ·cases b10<;>simp only [cg,cC]<;>decide
            ·exact lE
           ·exact lE
          ·exact lE
         ·exact lE
        ·exact lE
       ·exact lE
      ·exact lE
     ·exact lE
    ·exact lE
   have h3:=eq_of_beq h1;omega
  have AN:∀y∈e.L,Y0 l en y:=λy hy=>ih y hy (bB.ui hy);rcases elems en bB hn AN A1 hd with⟨xs,ys,w8,yY,dX,c1,r1⟩|⟨c1,r1⟩
  rotate_left
  ·refine⟨kf,kf,false,bz Uh ?_,bz Wt ?_,λh=>bh⟩
   ·rw [eG];refine aj (exC e) ?_;rw [show gC (0,[J (aU (fg e).1),iI (fg e).2]).2 0=aU (fg e).1 from rfl,eG];refine aj hJ (aX ?_);simp only [cg];rw [show gC (0,[J (aU e),J (sT (eT z3) oe),J (aU (fg e).1),aa []]).2 0=aU e from rfl,eG];exact aj (afX (xs:=[]) en hf c1) (bj aL)
   ·rw [eG];exact aj hR (bj (aj (afW en r1) (bj aL)))
  have hGC:bM L9 [dL (la.map bW),nI l en,J (aU e),J z4,dL [],aa []] (0,[nI l en,J (aU e),J z4,dL (xs.map bW),aa []]):=by
   have:=afX (xs:=xs) en hf c1;rw [show gC (1,[nI l en,J (aU e),J z4,dL (xs.map bW),aa []]).2 1=aU e from rfl,eG]at this;exact this
  have hGR:bM Nu [jM l lb en,J (aU e),J z4,er [],aa []] (0,[jM l lb en,J (aU e),J z4,er (ys.map bW),aa []]):=by
   have:=afW en r1;rw [show gC (1,[jM l lb en,J (aU e),J z4,er (ys.map bW),aa []]).2 1=aU e from rfl,eG]at this;exact this
  have ar:=λk hk=>aFr hf (k:=k) hk;rw [<-yY]at ar;clear ih AN c1 r1 yY;have C:∀r:UO,_->Ev HC [nI l en,J (aU e),dL (la.map bW)] r:=λr h=>by
   refine bz Uh ?_;rw [eG];refine aj (exC e) ?_;rw [show gC (0,[J (aU (fg e).1),iI (fg e).2]).2 0=aU (fg e).1 from rfl,eG];refine aj hJ (aX ?_);simp only [cg];rw [show gC (0,[J (aU e),J (sT (eT z3) oe),J (aU (fg e).1),aa []]).2 0=aU e from rfl,eG];refine aj hGC (aX ?_);exact h
  have R:∀r:UO,_->Ev Iw [jM l lb en,J (aU e)] r:=λr h=>by
   refine bz Wt ?_;rw [eG];refine aj hR (bj (aj hGR (aX ?_)));exact h
  clear hGC hGR hR hJ hf bB;cases e with
  |mk k p n o f ln lo hi L=>
  have ar:(fg (.mk k p n o f ln lo hi L)).2 =(xs.length:Int):=ar k rfl;have I0:(k==2||k==3||k==12)=false->xj l.length (.mk k p n o f ln lo hi L):=λh=> .mk _ (λh'=>by rw [show(CE.mk k p n o f ln lo hi L).kind =k from rfl,h]at h';cases h') dX;have I1:ib o l.length=true->xj l.length (.mk k p n o f ln lo hi L):=λh=> .mk _ (λ_=>h) dX;cases h1:k==1 with
  |true=>
   refine⟨⟨false,n==0,[],n,n⟩,⟨false,n==0,[],n,n⟩,bif decide (-2147483648<=n)then decide (n<=2147483647)else false,C _ ?_,R _ ?_,λ_=>⟨uM rfl,I0 (Ye)⟩⟩
   ·exact bu h1 (av (c:=decide (-2147483648<=n)) (λh=>af (fY)) λh=>af (fY))
   ·exact bu h1 (av (c:=decide (-2147483648<=n)) (λh=>af (fY)) λh=>af (fY))
  |false=>
  cases h2:k==2 with
  |true=>
   have zb:=P5 (l:=l) (en:=en) (o:=o) (off:=f);have za:=aj6 (l:=l) (o:=o) (off:=f);cases hs:jg l o f with
   |false=>
    rw [hs]at zb za;exact⟨kf,kf,false,C _ (aC h1 (bu h2 (aj zb (aX aL)))),R _ (aC h1 (bu h2 (aj za (aX aL)))),λh=>bh⟩
   |true=>
    rw [hs]at zb za;have hi:ib o l.length=true:=by
     unfold jg at hs;exact JE
    have hm:=qq hi;refine⟨⟨(cM l o).ptr,false,(cM l o).set,(cM l o).lo,(cM l o).hi⟩,⟨(cM l o).ptr,false,(cM l o).set,(cM l o).lo,(cM l o).hi⟩,true,C _ (aC h1 (bu h2 (aj zb (bj (aH (aip) (af ?_)))))),R _ (aC h1 (bu h2 (aj za (bj (aH (aip) (af ?_)))))),λ_=>⟨⟨⟨ol.nd _ hm,ol.jj _ hm⟩,⟨ol.nd _ hm,ol.jj _ hm⟩,rel_refl _⟩,I1 hi⟩⟩
    ·exact aks
    ·exact aks
  |false=>
  cases h3:k==3 with
  |true=>
   have ek:=eq_of_beq h3;subst ek;obtain⟨x,y,rfl,rfl,pZ⟩:=IW w8 (PY);have zb:=amX (l:=l) (en:=en) (o:=o) (off:=f) (n:=ln);have za:=ak9 (l:=l) (o:=o) (off:=f) (n:=ln);cases hs:mJ l o f ln with
   |false=>
    rw [hs]at zb za;exact⟨kf,kf,false,C _ (aC h1 (aC h2 (bu h3 (aj zb (aX aL))))),R _ (aC h1 (aC h2 (bu h3 (aj za (aX aL))))),λh=>bh⟩
   |true=>
    rw [hs]at zb za;have hi:ib o l.length=true:=by
     unfold mJ at hs;exact JE
    have dV:ib o (cf l).length =true:=Je;have hp:=pZ.rel.ptr;refine⟨bif x.ptr then kf else⟨false,false,[],(cM l o).lo,(cM l o).hi⟩,⟨false,false,[],(cM l o).lo,(cM l o).hi⟩,!x.ptr,C _ (aC h1 (aC h2 (bu h3 (aj zb (bj (aH rfl (aH rfl (av (c:=x.ptr) (λh=>af (fY)) λh=>aH dV (aH dV (af ?_)))))))))),R _ (aC h1 (aC h2 (bu h3 (aj za (bj (aH dV (aH dV (aH rfl (aH rfl (af ?_)))))))))),λh=> ?_⟩
    ·rw [h];show(0,[J [aq,aq,aa [],iI (gI (gA (cf l) o.toNat) 1),iI (gI (gA (cf l) o.toNat) 2)],cu])=_;rw [lM hi];rfl
    ·show(0,[J [aq,aq,aa [],iI (gI (gA (cf l) o.toNat) 1),iI (gI (gA (cf l) o.toNat) 2)],ak (!y.ptr)])=_;rw [lM hi,hp];rfl
    ·have:x.ptr=false:=by simpa using h
     rw [this];exact⟨uM rfl,I1 hi⟩
  |false=>
  cases h4:k==4 with
  |true=>
   have ek:=eq_of_beq h4;subst ek;obtain⟨x,y,rfl,rfl,pZ⟩:=IW w8 (PY);have hp:=pZ.rel.ptr;have ht:=pZ.rel.j7;cases ho:p==18 with
   |true=>exact⟨wB,wB,j7 x,C _ (aC h1 (aC h2 (aC h3 (bu h4 (bu ho (aj Kr (aH rfl (aH rfl (aj (Aa x) aL))))))))),R _ (aC h1 (aC h2 (aC h3 (bu h4 (bu ho (aH rfl (aH rfl (aj (z8 y) (af (by rw [ht];rfl)))))))))),λ_=>⟨uM rfl,I0 rfl⟩⟩
   |false=>
   cases hq:p==16 with
   |true=>exact⟨zJ,zJ,!x.ptr,C _ (aC h1 (aC h2 (aC h3 (bu h4 (aC ho (aj QG (bu hq (aH rfl (aH rfl aL))))))))),R _ (aC h1 (aC h2 (aC h3 (bu h4 (aC ho (bu hq (aH rfl (aH rfl (af (zN)))))))))),λ_=>⟨uM rfl,I0 rfl⟩⟩
   |false=>
   cases GY:p==17 with
   |true=>exact⟨zJ,zJ,!x.ptr,C _ (aC h1 (aC h2 (aC h3 (bu h4 (aC ho (aj QG (aC hq (bu GY (aH rfl (aH rfl aL)))))))))),R _ (aC h1 (aC h2 (aC h3 (bu h4 (aC ho (aC hq (bu GY (aH rfl (aH rfl (af (zN))))))))))),λ_=>⟨uM rfl,I0 rfl⟩⟩
   |false=>exact⟨zJ,zJ,false,C _ (aC h1 (aC h2 (aC h3 (bu h4 (aC ho (aj QG (aC hq (aC GY aL)))))))),R _ (aC h1 (aC h2 (aC h3 (bu h4 (aC ho (aC hq (aC GY aL))))))),λ_=>⟨uM rfl,I0 rfl⟩⟩
  |false=>
  cases h5:k==5 with
  |true=>
   have ek:=eq_of_beq h5;subst ek;obtain⟨x,y,x1,y1,rfl,rfl,pZ,aak⟩:=Pb w8 (ahz);have hb:=aB4 (p:=p) pZ.rel aak.rel;exact⟨(kS p x x1).1,(kS p x x1).1,(kS p x x1).2,C _ (aC h1 (aC h2 (aC h3 (aC h4 (bu h5 (aH rfl (aH rfl (aH rfl (aH rfl (aj (aND p x x1) aL)))))))))),R _ (aC h1 (aC h2 (aC h3 (aC h4 (bu h5 (aH rfl (aH rfl (aH rfl (aH rfl (aj (aNC p y y1) (af (by rw [hb];rfl)))))))))))),λ_=>⟨aB5,I0 rfl⟩⟩
  |false=>
  cases h6:(bif k==6 then true else k==7)with
  |true=>
   have hk:(fg (.mk k p n o f ln lo hi L)).2 =2:=ajI;obtain⟨x,y,x1,y1,rfl,rfl,pZ,aak⟩:=Pb w8 (by rw [hk]at ar;omega);have I6:(k==2||k==3||k==12)=false:=ajI;have tg:=ahf k;have te:=ahe k;rw [h6]at tg te;have ht1:=pZ.rel.j7;have ht2:=aak.rel.j7;refine⟨wB,wB,yh x x1,C _ (aC h1 (aC h2 (aC h3 (aC h4 (aC h5 (aj tg (aX (aj Kr (aH rfl (aH rfl (aj (Aa x) (av (c:=j7 x) (λh=>aH rfl (aH rfl (aj (Aa x1) (af ?_)))) λh=>af ?_)))))))))))),R _ (aC h1 (aC h2 (aC h3 (aC h4 (aC h5 (aj te (aX (aH rfl (aH rfl (aj (z8 y) (av (c:=j7 y) (λh=>aH rfl (aH rfl (aj (z8 y1) (af ?_)))) λh=>af ?_))))))))))),λ_=>⟨uM rfl,I0 I6⟩⟩
   ·unfold yh;rw [h];rfl
   ·unfold yh;rw [h];rfl
   ·unfold yh;rw [ht1,ht2,h];rfl
   ·unfold yh;rw [ht1,h];rfl
  |false=>
  have tg:=ahf k;have te:=ahe k;rw [h6]at tg te;cases h8:k==8 with
  |true=>
   have ek:=eq_of_beq h8;subst ek;obtain⟨x,y,x1,y1,x2,y2,rfl,rfl,AO,pD,GV⟩:=aA3 w8 (by have:(3:Int)=(xs.length:Int):=ar;omega);obtain⟨s,e1,e2⟩:=hE ol.len pD.l GV.l;obtain⟨t,e3,e4⟩:=aET ol.len pD.r GV.r;have hb:=aBU pD.rel GV.rel;have ht:=AO.rel.j7;refine⟨s,t,oF x1 x2&&j7 x,C _ (aC h1 (aC h2 (aC h3 (aC h4 (aC h5 (aj tg (bj (bu h8 (aH rfl (aH rfl (aH rfl (aH rfl (aj e1 (av (c:=oF x1 x2) (λh=>aH rfl (aH rfl (aj (Aa x) (af ?_)))) λh=>af ?_)))))))))))))),R _ (aC h1 (aC h2 (aC h3 (aC h4 (aC h5 (aj te (bj (bu h8 (aH rfl (aH rfl (aH rfl (aH rfl (aj e3 (av (c:=oF y1 y2) (λh=>aH rfl (aH rfl (aj (z8 y) (af ?_)))) λh=>af ?_)))))))))))))),λh=> ?_⟩
   ·exact fY
   ·exact fY
   ·rw [hb,ht,h];rfl
   ·rw [hb,h];rfl
   ·rw [bS]at h;obtain⟨i1,i2⟩:=e2 h.1;obtain⟨i3,i4⟩:=e4 (by rw [<-hb];exact h.1);exact⟨⟨i1,i3,yF.rel pD.rel GV.rel i2 i4⟩,I0 rfl⟩
  |false=>
  cases h9:k==9 with
  |true=>
   have ek:=eq_of_beq h9;subst ek;obtain⟨x,y,rfl,rfl,pZ⟩:=IW w8 (PY);have hp:=pZ.rel.ptr;refine⟨⟨false,false,[],lo,hi⟩,⟨false,false,[],lo,hi⟩,bif decide (-2147483648<=lo)then bif decide (hi<=2147483647)then bif decide (lo<=hi)then !x.ptr else false else false else false,C _ (aC h1 (aC h2 (aC h3 (aC h4 (aC h5 (aj tg (bj (aC h8 (bu h9 (av (c:=decide (-2147483648<=lo)) (λa1=>av (c:=decide (hi<=2147483647)) (λa2=>av (c:=decide (lo<=hi)) (λa3=>aH rfl (aH rfl (af ?_))) λa3=>af ?_) λa2=>af ?_) λa1=>af ?_)))))))))),R _ (aC h1 (aC h2 (aC h3 (aC h4 (aC h5 (aj te (bj (aC h8 (bu h9 (av (c:=decide (-2147483648<=lo)) (λa1=>av (c:=decide (hi<=2147483647)) (λa2=>av (c:=decide (lo<=hi)) (λa3=>aH rfl (aH rfl (af ?_))) λa3=>af ?_) λa2=>af ?_) λa1=>af ?_)))))))))),λ_=>⟨uM rfl,I0 rfl⟩⟩
   ·rw [a1,a2,a3];rfl
   ·rw [a1,a2,a3];rfl
   ·rw [a1,a2];rfl
   ·rw [a1];rfl
   ·rw [a1,a2,a3,hp];rfl
   ·rw [a1,a2,a3];rfl
   ·rw [a1,a2];rfl
   ·rw [a1];rfl
  |false=>
  cases iS:k==10 with
  |true=>
   have ek:=eq_of_beq iS;subst ek;obtain⟨x,y,x1,y1,rfl,rfl,AO,pD⟩:=Pb w8 (ahz);exact⟨⟨x1.ptr,false,x1.set,x1.lo,x1.hi⟩,⟨y1.ptr,false,y1.set,y1.lo,y1.hi⟩,true,C _ (aC h1 (aC h2 (aC h3 (aC h4 (aC h5 (aj tg (bj (aC h8 (aC h9 (bu iS (aH rfl (aH rfl (aH rfl (aH rfl aL)))))))))))))),R _ (aC h1 (aC h2 (aC h3 (aC h4 (aC h5 (aj te (bj (aC h8 (aC h9 (bu iS (aH rfl (aH rfl aL)))))))))))),λ_=>⟨⟨⟨pD.l.nd,pD.l.jj⟩,⟨pD.r.nd,pD.r.jj⟩,⟨pD.rel.ptr,rfl,pD.rel.lo,pD.rel.hi,pD.rel.set⟩⟩,I0 rfl⟩⟩
  |false=>
  cases lx:k==11 with
  |true=>
   have e1:∀ls:List SO,decide (az.ln (ls.map bW)<=n)=decide ((ls.length:Int)<=n):=λls=>by rw [dq]
   cases a1:decide (n<0)with
   |true=>exact⟨kf,kf,false,C _ (aC h1 (aC h2 (aC h3 (aC h4 (aC h5 (aj tg (bj (aC h8 (aC h9 (aC iS (bu lx (bu a1 aL)))))))))))),R _ (aC h1 (aC h2 (aC h3 (aC h4 (aC h5 (aj te (bj (aC h8 (aC h9 (aC iS (bu lx (bu a1 aL)))))))))))),λh=>bh⟩
   |false=>
   cases a2:decide ((la.length:Int)<=n)with
   |true=>exact⟨kf,kf,false,C _ (aC h1 (aC h2 (aC h3 (aC h4 (aC h5 (aj tg (bj (aC h8 (aC h9 (aC iS (bu lx (aC a1 (bu (by show decide (az.ln (la.map bW)<=n)=true;rw [e1];exact a2) aL))))))))))))),R _ (aC h1 (aC h2 (aC h3 (aC h4 (aC h5 (aj te (bj (aC h8 (aC h9 (aC iS (bu lx (aC a1 (bu (by show decide (az.ln (lb.map bW)<=n)=true;rw [e1,<-Lb];exact a2) aL))))))))))))),λh=>bh⟩
   |false=>
    simp only [decide_eq_false_iff_not,Int.not_lt,Int.not_le]at a1 a2;obtain⟨j,rfl⟩:∃j:Nat,n=(j:Int):=⟨n.toNat,by omega⟩;have hj:la.length- 1- j<la.length:=by omega
    have rL:la.length- 1- j<lb.length:=by omega
    have hw:bx (bx (az.ln (la.map bW)- 1)-(j:Int))=((la.length- 1- j:Nat):Int):=by
     rw [dq,jv (n:=(la.length:Int)- 1) (by omega) (by omega),jv (by omega) (by omega)];omega
    have hw':bx (bx (az.ln (lb.map bW)- 1)-(j:Int))=((la.length- 1- j:Nat):Int):=by
     rw [dq,<-Lb,jv (n:=(la.length:Int)- 1) (by omega) (by omega),jv (by omega) (by omega)];omega
    have qh:=A1.at hj rL;refine⟨⟨la[la.length- 1- j].ptr,false,la[la.length- 1- j].set,la[la.length- 1- j].lo,la[la.length- 1- j].hi⟩,⟨lb[la.length- 1- j].ptr,false,lb[la.length- 1- j].set,lb[la.length- 1- j].lo,lb[la.length- 1- j].hi⟩,true,C _ (aC h1 (aC h2 (aC h3 (aC h4 (aC h5 (aj tg (bj (aC h8 (aC h9 (aC iS (bu lx (aC (c:=decide ((j:Int)<0)) (by simp) (aC (c:=decide (az.ln (la.map bW)<=(j:Int))) (by rw [e1];simp;omega) (aH (c:=ib (bx (bx (az.ln (la.map bW)- 1)-(j:Int))) (la.map bW).length) (by rw [hw];exact cH hj) (af ?_))))))))))))))),R _ (aC h1 (aC h2 (aC h3 (aC h4 (aC h5 (aj te (bj (aC h8 (aC h9 (aC iS (bu lx (aC (c:=decide ((j:Int)<0)) (by simp) (aC (c:=decide (az.ln (lb.map bW)<=(j:Int))) (by rw [e1];simp;omega) (aH (c:=ib (bx (bx (az.ln (lb.map bW)- 1)-(j:Int))) (lb.map bW).length) (by rw [hw'];exact cH rL) (af ?_))))))))))))))),λ_=>⟨⟨⟨qh.l.nd,qh.l.jj⟩,⟨qh.r.nd,qh.r.jj⟩,⟨qh.rel.ptr,rfl,qh.rel.lo,qh.rel.hi,qh.rel.set⟩⟩,I0 (by rw [eq_of_beq lx];rfl)⟩⟩
    ·show(0,[J (sT (js (gA (la.map bW) (bx (bx (az.ln (la.map bW)- 1)-(j:Int))).toNat)) [(1,aq)]),cu])=_;rw [hw,fM hj];rfl
    ·show(0,[J (sT (js (gA (lb.map bW) (bx (bx (az.ln (lb.map bW)- 1)-(j:Int))).toNat)) [(1,aq)]),cu])=_;rw [hw',fM rL];rfl
  |false=>
  cases DG:k==12 with
  |true=>
   have hb:E (λN _=>bO (FU CX EE N Bf [nI l en,iI o,iI 0]) λ_ rG=>bif gB rG 0 then aP (ib o ((cf l).length))<|bif !(gB (gA (cf l) o.toNat) 3)then aP (ib o ((cf l).length))<|some (0,[J [cu,aq,aa [[iI o]],iI 0,iI 0],ak (gI (gA (cf l) o.toNat) 0==1)])else some (0,[J [cu,aq,aa [[iI o]],iI 0,iI 0],aq])else some (0,[J [cu,aq,aa [[iI o]],iI 0,iI 0],aq]))
    (0,[J (bW ⟨true,false,[o],0,0⟩),ak (ib o l.length&& !(cM l o).ptr &&((cM l o).size ==1))]):=by
    have hk:=P5 (l:=l) (en:=en) (o:=o) (off:=0);refine aj hk (av (c:=jg l o 0) (λhs=> ?_) λhs=>af ?_)
    ·have hi:ib o l.length=true:=by
      unfold jg at hs;exact JE
     have dV:ib o (cf l).length =true:=Je;exact ajG
    ·have:(ib o l.length&& !(cM l o).ptr &&((cM l o).size ==1))=false:=by
      cases hi:ib o l.length with
      |false=>rfl
      |true=>
       cases hz:(cM l o).size ==1 with
       |false=>simp
       |true=>
        have hz:=eq_of_beq hz;have hh:=jf.1 hi;have ha:decide (0<=o)=true:=by simpa using hh.1
        have hb:decide (o<(l.length:Int))=true:=by simpa using hh.2
        unfold jg at hs;rw [ha,hb,hz]at hs;cases hs
     exact eX
   have hr:bM Tp [jM l lb en,J (aU (.mk k p n o f ln lo hi L))] (0,[ak (ib o l.length&& !(cM l o).ptr &&((cM l o).size ==1)),jM l lb en,J (aU (.mk k p n o f ln lo hi L))]):=by
    refine bU aqH ?_;refine av (c:=decide (0<=o)) (λh1=> ?_) λh1=>af ?_
    ·refine av (c:=decide (o<az.ln (cf l))) (λh2=> ?_) λh2=>af ?_
     ·rw [dq]at h2;have hi:=sr h1 h2;have dV:ib o (cf l).length =true:=Je;show E (λN _=>aP (ib o (cf l).length) (bif !(gB (gA (cf l) o.toNat) 3)then aP (ib o (cf l).length) (some (0,[ak (gI (gA (cf l) o.toNat) 0==1),_,_]))else _)) _;exact ajG
     ·rw [dq]at h2;have:ib o l.length=false:=by
       cases hi:ib o l.length with
       |false=>rfl
       |true=>have:=(jf.1 hi).2;simp at h2;omega
      exact eX
    ·have:ib o l.length=false:=by
      cases hi:ib o l.length with
      |false=>rfl
      |true=>have:=(jf.1 hi).1;simp at h1;omega
     exact eX
   refine⟨⟨true,false,[o],0,0⟩,⟨true,false,[o],0,0⟩,ib o l.length&& !(cM l o).ptr &&((cM l o).size ==1),C _ (aC h1 (aC h2 (aC h3 (aC h4 (aC h5 (aj tg (bj (aC h8 (aC h9 (aC iS (aC lx (bu DG hb)))))))))))),R _ (aC h1 (aC h2 (aC h3 (aC h4 (aC h5 (aj te (bj (aC h8 (aC h9 (aC iS (aC lx (bu DG (aj hr aL))))))))))))),λh=> ?_⟩;rw [bS,bS]at h;have hv:SO.Inv l.length ⟨true,false,[o],0,0⟩:=⟨by simp,λx hx=>by simp at hx;subst hx;exact h.1.1⟩;exact⟨⟨hv,hv,rel_refl _⟩,I1 h.1.1⟩
  |false=>
  cases Lq:k==13 with
  |true=>
   have ek:=eq_of_beq Lq;subst ek;obtain⟨x,y,rfl,rfl,pZ⟩:=IW w8 (PY);have hq:=aBo (l:=l) pZ.rel;have p1:=aLU (l:=l) (en:=en) (s:=x) (pZ.l.le ol.len) pZ.l.jj;have p2:=aLT (l:=l) (s:=y) (pZ.r.le ol.len) pZ.r.jj;rw [<-hq]at p2;exact⟨(po l x).1,(po l x).1,(po l x).2,C _ (aC h1 (aC h2 (aC h3 (aC h4 (aC h5 (aj tg (bj (aC h8 (aC h9 (aC iS (aC lx (aC DG (bu Lq (aH rfl (aH rfl (aj p1 aL)))))))))))))))),R _ (aC h1 (aC h2 (aC h3 (aC h4 (aC h5 (aj te (bj (aC h8 (aC h9 (aC iS (aC lx (aC DG (bu Lq (aH rfl (aH rfl (aj p2 aL)))))))))))))))),λ_=>⟨uM aBn,I0 rfl⟩⟩
  |false=>
   exact⟨⟨false,false,[],0,32⟩,⟨false,false,[],0,32⟩,bif decide (0<=n)then decide (n<en)else false,C _ (aC h1 (aC h2 (aC h3 (aC h4 (aC h5 (aj tg (bj (aC h8 (aC h9 (aC iS (aC lx (aC DG (aC Lq (av (c:=decide (0<=n)) (λh=>af (fY)) λh=>af (fY))))))))))))))),R _ (aC h1 (aC h2 (aC h3 (aC h4 (aC h5 (aj te (bj (aC h8 (aC h9 (aC iS (aC lx (aC DG (aC Lq (av (c:=decide (0<=n)) (λh=>af (fY)) λh=>af (fY))))))))))))))),λ_=>⟨uM rfl,I0 (by rw [h2,h3,DG];rfl)⟩⟩
end
end Go.Proofs.YtomkobcipaligaaGreatDoor
namespace Go.az
def akx{p:Prop}(h:p:=by
 rw [tZ,eG];refine bu (dr hi)<|aH (cH hi) ?_;rw [su hi,ix hi bB.len];exact aj (hf e.L[i] (dO hi)).2 (av (λpF=>af (h2 pF)) h3)):p:=h
def FM{p:Prop}(h:p:=by have:=hw.gP;simp only [mx];omega):p:=h
def B8{p:Prop}(h:p:=by rw [eE];exact ho):p:=h
def PX{p:Prop}(h:p:=by have:=hw.kE;simp only [mx];omega):p:=h
def Yz{p:Prop}(h:p:=by refine aj hi.diag (bj (af ?_));erw [hc];rfl):p:=h
def Yy{p:Prop}(h:p:=by refine aj hi.diag (aX (af ?_));erw [hc];rfl):p:=h
def j5{p:Prop}(h:p:=by erw [hc];rfl):p:=h
def aia{p:Prop}(h:p:=by
 rw [show decide (0<=(i:Int))=true by simp]at this;exact this):p:=h
def ahR{p:Prop}(h:p:=by have:=jf.1 ho;rw [eE];simp;omega):p:=h
end Go.az
namespace Go.az
def dF:=@Bool.not_eq_false'
def W6:=@Classical.axiomOfChoice
end Go.az
namespace Go.Proofs.YtomkobcipaligaaGreatDoor
open Go Go.az
section
variable{i o:Int}
theorem aEB{e:CE}(h:GC e=true):mV e<=64:=by unfold GC at h;simp at h;omega
theorem RT(hE:ml){l:List OB}(ol:OL l)(en:Int)(e:CE)(bB:e.Ok):∃s t b,
 Ev MI [nI l en,J (aU e)] (0,[J (bW s),ak b])∧Ev BX [jM l [] en,J (aU e)] (0,[J (bW t),ak b])∧(b=true->RI l.length s t∧xj l.length e):=by
 obtain⟨n',hw,_⟩:=aC9 e bB 0 256 (by omega) (by omega) (by omega) (by omega);have hz:=aEh e bB 256 64 (by omega) (by omega) (by omega) (by omega);have e1:(decide ((ji e:Int)<=256)&&decide ((0:Int)+mV e<=64))=GC e:=by unfold GC;simp
 have e2:(decide ((ji e:Int)<=256)&&decide ((mV e:Int)<=64))=GC e:=rfl;rw [e1]at hw;rw [e2]at hz;cases h:GC e with
 |false=>
  rw [h]at hw hz;refine⟨kf,kf,false,bz adh ?_,bz agm ?_,λh=>bh⟩
  ·rw [eG];exact aj hw (aX aL)
  ·rw [eG];exact aj hz (aX aL)
 |true=>
  rw [h]at hw hz;obtain⟨s,t,b,h1,h2,h3⟩:=aEc hE ol en e bB [] [] .nil (by have:=aEB h;simp;omega);refine⟨s,t,b,bz adh ?_,bz agm ?_,h3⟩
  ·rw [eG];exact aj hw (bj (aj h1 aL))
  ·rw [eG];exact aj hz (aC (c:=decide ((ji e:Int)<0)) (by simp) (aj h2 aL))
structure WH where
 task:Int
 marks:cT
 kG:cT
 kE:cT
 gP:cT
 loops:cT
 jy:Bool
 iC:Bool
 xJ:Bool
 lC:Int
 deep:Int
structure WH.Ok(w:WH):Prop where
 marks:w.marks.length<=1000
 kG:w.kG.length<=1000
 kE:w.kE.length<=1000
 gP:w.gP.length<=1000
 loops:w.loops.length<=1000
structure RO where
 gr:Int
 task:Int
 entry:Int
variable{l:List RO}
def sG(r:RO):bp:=[iI r.gr,iI r.task,iI r.entry]
def kV:RO:=⟨-1,-1,-1⟩
abbrev bf(l:List RO):aZ:=l.map sG
def eu(l:List RO)(i:Int):RO:=l.getD i.toNat kV
theorem JI(h:ib i l.length=true):gA (bf l) i.toNat=sG (eu l i):=by
 have:=jf.1 h;have h2:i.toNat<l.length:=by omega
 rw [sf h2];simp [eu,h2]
theorem OF(h:ib i l.length=true):eu l i∈l:=by
 have:=jf.1 h;have h2:i.toNat<l.length:=by omega
 simp only [eu,mY,dz h2,oR];exact dO h2
def RO.Ok(r:RO):Prop:=r=kV∨0<=r.gr∨0<=r.task
abbrev bC(j:Nat)(w:WH):bp:=[.ptr j 0 0,iI w.task,aa (ints w.marks),aa (ints w.kG),aa (ints w.kE),aa (ints w.gP),aa (ints w.loops),ak w.jy,ak w.iC,ak w.xJ,iI w.lC,iI w.deep]
abbrev dP(i j:Nat)(p:PG)(left:Int):bp:=[bJ (cf p.bw),iI (-1),bJ (cf p.bw),iI p.eQ,fq (p.tasks.map cE),nT (p.dp.map fr),.aA i,iI left,.mp j]
abbrev bL(p:PG)(ro:List RO)(w:WH):AV:= J [bJ (cf p.bw),iI p.eQ,fq (p.tasks.map cE),nT (p.dp.map fr),cD (bf ro),iI w.task,aa (ints w.marks),aa (ints w.kG),aa (ints w.kE),aa (ints w.gP),aa (ints w.loops),ak w.jy,ak w.iC,ak w.xJ,iI w.lC,iI w.deep]
structure CT(p:PG)(ro:List RO):Prop where
 ok:p.Ok
 ol:OL p.bw
 len:ro.length=p.bw.length
 ro:∀r∈ro,r.Ok
 eQ:p.eQ<=64
 aEJ:p.tasks.length<=32
 ent:∀t∈p.tasks,∀e∈t.au,(∀x∈e.ins,ib x p.bw.length=true)∧(∀x∈e.outs,ib x p.bw.length=true)∧e.ins.length<=8∧e.outs.length<=8
section
variable {p:PG} {ro:List RO} (ct:CT p ro) {w:WH} (hw:w.Ok) {cn:aZ} (hc:ay (au cn)=cn) {lf:Int}
def iD(ro:List RO)(w:WH)(o:Int):Bool:=
 bif decide (0<=(eu ro o).gr)then dJ w.gP (eu ro o).gr else bif decide ((eu ro o).task <0)then true else bif (eu ro o).task ==w.task then dJ w.kE (eu ro o).entry else false
include hw hc in
theorem J9(ho:ib o ro.length=true):Ev Bl [J (bC 0 w),iI o,J (dP 1 2 p lf),ah (bf ro),.ab 0 cn] (0,[ak (iD ro w o),J (dP 1 2 p lf),ah (bf ro),.ab 0 cn]):=by
 have fj:ib o (bf ro).length =true:=B8;refine bz ava (aH fj (aH (ahR) ?_));rw [hc,JI ho];refine av (c:=decide (0<=(eu ro o).gr)) (λh1=>aj (uI (eu ro o).gr (FM)) (af ?_)) λh1=>av (c:=decide ((eu ro o).task <0)) (λh2=>af ?_) λh2=>av (c:=(eu ro o).task ==w.task) (λh3=>aj (uI (eu ro o).entry (PX)) (af ?_)) λh3=>af ?_
 ·simp only [iD,h1,cg];rfl
 ·simp only [iD,h1,h2,cg,cC];rfl
 ·simp only [iD,h1,h2,h3,cg,cC];rfl
 ·simp only [iD,h1,h2,h3,cC];rfl
include hw in
theorem Rb(ho:ib o ro.length=true):Ev Es [bL p ro w,iI o] (0,[ak (iD ro w o)]):=by
 have fj:ib o (bf ro).length =true:=B8;refine bz ayc (aH fj ?_);erw [JI ho];refine av (c:=decide (0<=(eu ro o).gr)) (λh1=>aj (um (eu ro o).gr (FM)) (af ?_)) λh1=>av (c:=decide ((eu ro o).task <0)) (λh2=>af ?_) λh2=>av (c:=(eu ro o).task ==w.task) (λh3=>aj (um (eu ro o).entry (PX)) (af ?_)) λh3=>af ?_
 ·simp only [iD,h1,cg];rfl
 ·simp only [iD,h1,h2,cg,cC]
 ·simp only [iD,h1,h2,h3,cg,cC];rfl
 ·simp only [iD,h1,h2,h3,cC]
def ud(ro:List RO)(w:WH)(e:CE):Bool:=
 bif e.kind==2 then iD ro w e.O else bif e.kind==3 then iD ro w e.O else bif e.kind==12 then((eu ro e.O).gr == -1)&&(((eu ro e.O).task == -1)&&(((eu ro e.O).entry == -1)&&true))else true
include ct hw hc in
theorem aj4:∀e:CE,e.Ok->xj p.bw.length e->∃b,
 Ev Ea [J (bC 0 w),J (aU e),J (dP 1 2 p lf),ah (bf ro),.ab 0 cn] (0,[ak b,J (dP 1 2 p lf),ah (bf ro),.ab 0 cn])∧
 Ev uF [bL p ro w,J (aU e)] (0,[ak b]):=by
 refine CE.ind λe ih bB dX=> ?_;have hr:(e.kind==2||e.kind==3||e.kind==12)=true->ib e.O ro.length=true:=λh=>by
  rw [ct.len];cases dX with|mk _ h1 _=>exact h1 h
 have kP:∀y∈e.L,xj p.bw.length y:=by cases dX with|mk _ _ h1=>exact h1
 have hJ:bM T4 [J (dP 1 2 p lf),ah (bf ro),.ab 0 cn,J (bC 0 w),J (aU e)]
  (bif ud ro w e then(0,[J (dP 1 2 p lf),ah (bf ro),.ab 0 cn,J (bC 0 w),J (aU e)])else(1,[aq,J (dP 1 2 p lf),ah (bf ro),.ab 0 cn,J (bC 0 w),J (aU e)])):=by
  refine bU ar9 ?_;rw [hc,Kk,aaG,eG];refine av (λh1=> ?_) λh1=>av (λh2=> ?_) λh2=>av (λh3=> ?_) λh3=>af ?_
  ·refine aj (J9 hw hc (hr (by rw [h1];rfl))) ?_;erw [hc];refine av (c:= !iD ro w e.O) (λh=>af ?_) λh=>af ?_
   ·simp only [dT]at h;simp only [ud,h1,h,cg,cC];rfl
   ·simp only [dF]at h;simp only [ud,h1,h,cg];rfl
  ·refine aj (J9 hw hc (hr (by rw [h2];simp))) ?_;erw [hc];refine av (c:= !iD ro w e.O) (λh=>af ?_) λh=>af ?_
   ·simp only [dT]at h;simp only [ud,h1,h2,h,cg,cC];rfl
   ·simp only [dF]at h;simp only [ud,h1,h2,h,cg,cC];rfl
  ·have ho:=hr (by rw [h3];simp);have fj:ib e.O (bf ro).length =true:=B8;refine aH fj (aH (ahR) ?_);rw [JI ho];refine av (c:= !(((eu ro e.O).gr == -1)&&(((eu ro e.O).task == -1)&&(((eu ro e.O).entry == -1)&&true)))) (λh=>af ?_) λh=>af ?_
   ·simp only [dT]at h;simp only [ud,h1,h2,h3,h,cg,cC];rfl
   ·simp only [dF]at h;simp only [ud,h1,h2,h3,h,cg,cC];rfl
  ·simp only [ud,h1,h2,h3,cg,cC];rfl
 have U:∀r,(ud ro w e=false->(0,[aq])=r)->(ud ro w e=true->E (λN _=>bO (Hz (FU CX EE N) N N [iI 0,bL p ro w,J (aU e)]) λq6 o6=>bif Nat.beq q6 0 then some (0,[ak (gB o6 0)])else some (0,[cu])) r)->Ev uF [bL p ro w,J (aU e)] r:=by
  intro r hn hy;clear hJ ih bB dX kP;obtain⟨k,op,n,o,f,ln,lo,hi,L⟩:=e;have hu:ud ro w (.mk k op n o f ln lo hi L)=bif k==2 then iD ro w o else bif k==3 then iD ro w o else bif k==12 then((eu ro o).gr == -1)&&(((eu ro o).task == -1)&&(((eu ro o).entry == -1)&&true))else true:=rfl;refine bz axo (wM auZ (sc (c:=k==2) (λh1=> ?_) λh1=>sc (c:=k==3) (λh2=> ?_) λh2=>mf (aX (wM Uf (sc (c:=k==12) (λh3=> ?_) λh3=>mf (aX (hy ?_)))))))
  ·refine agv (Rb hw (hr (by rw [show(CE.mk k op n o f ln lo hi L).kind =k from rfl,h1];rfl))) (sc (c:= !iD ro w o) (λh=>mf (bj (af (hn ?_)))) λh=>mf (aX (wM Uf (Jt (c:=k==12) (Ye) (mf (aX (hy ?_)))))))
   ·simp only [dT]at h;rw [hu,h1,h];rfl
   ·simp only [dF]at h;rw [hu,h1,h];rfl
  ·refine agv (Rb hw (hr (by rw [show(CE.mk k op n o f ln lo hi L).kind =k from rfl,h2];simp))) (sc (c:= !iD ro w o) (λh=>mf (bj (af (hn ?_)))) λh=>mf (aX (wM Uf (Jt (c:=k==12) (by rw [eq_of_beq h2];rfl) (mf (aX (hy ?_)))))))
   ·simp only [dT]at h;rw [hu,h1,h2,h];rfl
   ·simp only [dF]at h;rw [hu,h1,h2,h];rfl
  ·have ho:ib o ro.length=true:=hr (by rw [show(CE.mk k op n o f ln lo hi L).kind =k from rfl,h3];simp);have fj:ib o (bf ro).length =true:=B8;refine Fm fj ?_;erw [JI ho];have kp:=ct.ro _ (OF ho);refine sc (c:=decide (0<=(eu ro o).gr)) (λh=>mf (bj (af (hn ?_)))) λh=>Fm fj (sc (c:=decide (0<=(eu ro o).task)) (λh'=>mf (bj (af (hn ?_)))) λh'=>mf (aX (hy ?_)))
   ·have:((eu ro o).gr == -1)=false:=by simp at h⊢;omega
    rw [hu,h1,h2,h3,this];rfl
   ·have:((eu ro o).task == -1)=false:=by simp at h'⊢;omega
    rw [hu,h1,h2,h3,this];simp
   ·rcases kp with kp|kp|kp
    ·rw [hu,h1,h2,h3,kp];rfl
    ·simp at h;omega
    ·simp at h';omega
  ·rw [hu,h1,h2,h3];rfl
 cases hu:ud ro w e with
 |false=>
  rw [hu]at hJ;refine⟨false,bz acy ?_,U _ (λ_=>rfl) (λh=>by rw [hu]at h;cases h)⟩;rw [hc,eG];refine aj hJ (bj (af ?_));exact j5
 |true=>
  rw [hu]at hJ;have Zo:∀y,∃b,y∈e.L->(Ev Ea [J (bC 0 w),J (aU y),J (dP 1 2 p lf),ah (bf ro),.ab 0 cn] (0,[ak b,J (dP 1 2 p lf),ah (bf ro),.ab 0 cn])∧Ev uF [bL p ro w,J (aU y)] (0,[ak b])):=λy=>by
   by_cases hy:y∈e.L
   ·obtain⟨b,hb⟩:=ih y hy (bB.ui hy) (kP y hy);exact⟨b,λ_=>hb⟩
   ·exact⟨true,λh=>absurd h hy⟩
  have hf:=W6 Zo;obtain⟨f,hf⟩:=hf;have k1:=scan (l:=e.L) (p:=λy=> !f y) (hit:=λi=>(0,[iI (i:Int),J (bC 1 w),J (dP 2 3 p lf),ah (bf ro),.ab 0 cn])) (done:=(1,[J (bC 1 w),J (dP 2 3 p lf),ah (bf ro),.ab 0 cn]))
   (LF:=λi N m=>DQ (FU CX EE N) N m [aT (e.L.map aU),iI (ln (e.L.map aU)),iI (i:Int),J (bC 1 w),J (dP 2 3 p lf),ah (bf ro),.ab 0 cn])
   (bF aaT (aC dU (af (xM))))
   λi hi r h2 h3=>bF aaT<|bu (dr hi)<|aH (cH hi)<|by
    rw [hc,su hi,ix hi bB.len];have q:Ev TS [J (aU e.L[i]),J (bC 1 w),J (dP 2 3 p lf),ah (bf ro),.ab 0 cn] (0,[ak (!f e.L[i]),J (bC 1 w),J (dP 2 3 p lf),ah (bf ro),.ab 0 cn]):=by
     refine bz asg ?_;rw [hc,eG];refine aj (hf e.L[i] (dO hi)).1 (af ?_);exact j5
    refine aj q ?_;erw [hc];exact av (λpF=>af (h2 pF)) h3
  have k2:=oY (l:=e.L) (p:=λy=> !f y) (hit:=(0,[aq,bL p ro w,J (aU e)])) (done:=(1,[bL p ro w,J (aU e)]))
   (LF:=λi N m=>Hz (FU CX EE N) N m [iI (i:Int),bL p ro w,J (aU e)])
   (bF acd (aC (Yh) (af (by rw [eG];rfl))))
   λi hi r h2 h3=>bF acd<|akx
  have fin:∀i:Int,bP DQ [aT (e.L.map aU),iI (ln (e.L.map aU)),iI 0,J (bC 1 w),J (dP 2 3 p lf),ah (bf ro),.ab 0 cn] (0,[iI i,J (bC 1 w),J (dP 2 3 p lf),ah (bf ro),.ab 0 cn])∨(i= -1∧bP DQ [aT (e.L.map aU),iI (ln (e.L.map aU)),iI 0,J (bC 1 w),J (dP 2 3 p lf),ah (bf ro),.ab 0 cn] (1,[J (bC 1 w),J (dP 2 3 p lf),ah (bf ro),.ab 0 cn]))->
   Ev Ea [J (bC 0 w),J (aU e),J (dP 1 2 p lf),ah (bf ro),.ab 0 cn] (0,[ak (!decide (0<=i)),J (dP 1 2 p lf),ah (bf ro),.ab 0 cn]):=λi hi=>by
   have a1:Ev SH [aT (e.L.map aU),J (bC 1 w),J (dP 2 3 p lf),ah (bf ro),.ab 0 cn] (0,[iI i,J (bC 1 w),J (dP 2 3 p lf),ah (bf ro),.ab 0 cn]):=by
    refine bz aoL ?_;rw [hc];rcases hi with hi|⟨rfl,hi⟩
    ·exact Yy
    ·exact Yz
   have a2:Ev SD [aT (e.L.map aU),J (bC 1 w),J (dP 2 3 p lf),ah (bf ro),.ab 0 cn] (0,[ak (decide (0<=i)),J (bC 1 w),J (dP 2 3 p lf),ah (bf ro),.ab 0 cn]):=by
    refine bz aou ?_;rw [hc];refine aj a1 (af ?_);erw [hc];rfl
   refine bz acy ?_;rw [hc,eG];refine aj hJ (aX ?_);erw [hc,tZ];refine aj a2 (af ?_);erw [hc];rfl
  have R4:Ev uF [bL p ro w,J (aU e)] (0,[ak (!(e.L.any λy=> !f y))]):=U _ (λh=>by rw [hu]at h;cases h) λ_=>aj k2.diag (by cases(e.L.any λy=> !f y)<;>exact aL);rcases k1 with⟨q1,q2⟩|⟨q1,i,_,q2⟩
  ·rw [q1]at R4;exact⟨true,fin (-1) (.inr ⟨rfl,q2⟩),R4⟩
  ·rw [q1]at R4;refine⟨false,?_,R4⟩;have:=fin (i:Int) (.inl q2);exact aia
end
end
end Go.Proofs.YtomkobcipaligaaGreatDoor
namespace Go.az
def fX{p:Prop}(h:p:=by exact bj aL):p:=h
def Ck{p:Prop}(h:p:=by refine bj (af ?_);erw [hc];rfl):p:=h
def P1{p:Prop}(h:p:=by
 erw [hc];exact av (λpF=>af (q1 pF)) q2):p:=h
def aic{p:Prop}(h:p:=by
 rw [hc,eG];refine aj h1 (bj (af ?_));erw [hc];rfl):p:=h
def Yk{p:Prop}(h:p:=by rw [eG];exact aj h2 (bj aL)):p:=h
end Go.az
namespace Go.Proofs.YtomkobcipaligaaGreatDoor
open Go Go.az
section
variable{b:Bool}{e:CE}{s:SO}{l:cT}
theorem JL{α:Type}{l:List α}{p:α->Bool}{LF IX CT:Nat->Nat->Option UO}{st:bp}
 (h:(l.any p=false∧E LF (1,st))∨(l.any p=true∧∃i:Nat,i<l.length∧E LF (0,iI (i:Int)::st)))
 (h1:∀i:Int,E LF (0,iI i::st)->E IX (0,iI i::st)) (h2:E LF (1,st)->E IX (0,iI (-1)::st)) (h3:∀i:Int,E IX (0,iI i::st)->E CT (0,ak (decide (0<=i))::st)):
 E CT (0,ak (l.any p)::st):=by
 rcases h with⟨h,q⟩|⟨h,i,_,q⟩
 ·rw [h];exact h3 _ (h2 q)
 ·rw [h];have:=h3 _ (h1 _ q);exact aia
section
variable {p:PG} {ro:List RO} (ct:CT p ro) {w:WH} (hw:w.Ok) {cn:aZ} (hc:ay (au cn)=cn) {lf:Int} (hE:ml)
abbrev gk(p:PG)(ro:List RO)(lf:Int)(cn:aZ):bp:=[J (dP 1 2 p lf),ah (bf ro),.ab 0 cn]
include ct hw hc hE in
theorem FR(e:CE)(bB:e.Ok):∃s t b,
 Ev xo [J (bC 0 w),J (aU e),J (dP 1 2 p lf),ah (bf ro),.ab 0 cn] (0,J (bW s):: ak b::gk p ro lf cn)∧
 Ev Bu [bL p ro w,J (aU e)] (0,[J (bW t),ak b])∧(b=true->RI p.bw.length s t):=by
 obtain⟨s,t,b,h1,h2,h3⟩:=RT hE ct.ol (-1) e bB;cases b with
 |false=>
  refine⟨s,t,false,bz Mk ?_,bz adC ?_,λh=>bh⟩
  ·rw [hc,eG];exact aj h1 (bj aL)
  ·exact Yk
 |true=>
  obtain⟨ri,dX⟩:=h3 rfl;obtain⟨b,u1,u2⟩:=aj4 ct hw hc (lf:=lf) e bB dX;refine⟨s,t,b,bz Mk ?_,bz adC ?_,λ_=>ri⟩
  ·rw [hc,eG];refine aj h1 (aX (aj u1 (af ?_)));exact j5
  ·rw [eG];refine aj h2 (aX (aj u2 aL))
include ct hw hc hE in
theorem Zy(e:CE)(bB:e.Ok):∃b,Ev Hl [J (bC 0 w),J (aU e),J (dP 1 2 p lf),ah (bf ro),.ab 0 cn] (0,ak b::gk p ro lf cn)∧Ev Bb [bL p ro w,J (aU e)] (0,[ak b]):=by
 obtain⟨s,t,b,h1,h2,h3⟩:=FR ct hw hc (lf:=lf) hE e bB;cases b with
 |false=>
  refine⟨false,bz abC ?_,bz ab7 ?_⟩
  ·exact aic
  ·exact Yk
 |true=>
  have ht:=(h3 rfl).rel.j7;refine⟨j7 s,bz abC ?_,bz ab7 ?_⟩
  ·rw [hc,eG];refine aj h1 (aX (aj (Aa s) (af ?_)));erw [hc];rfl
  ·rw [eG];exact aj h2 (aX (aj (z8 t) (af (by rw [ht];rfl))))
include ct hw hc hE in
theorem J5(e:CE)(bB:e.Ok):∃b,Ev Bc [J (bC 0 w),J (aU e),J (dP 1 2 p lf),ah (bf ro),.ab 0 cn] (0,ak b::gk p ro lf cn)∧Ev xq [bL p ro w,J (aU e)] (0,[ak b]):=by
 obtain⟨s,t,b,h1,h2,h3⟩:=FR ct hw hc (lf:=lf) hE e bB;cases b with
 |false=>
  refine⟨false,bz ab8 ?_,bz acS ?_⟩
  ·exact aic
  ·exact Yk
 |true=>
  have ht:=(h3 rfl).rel.ptr;refine⟨!s.ptr,bz ab8 ?_,bz acS ?_⟩
  ·rw [hc,eG];refine aj h1 (aX (af ?_));erw [hc];rfl
  ·rw [eG];exact aj h2 (aX (af (by rw [ht];rfl)))
include ct hc in
theorem aE7(hs:s.Inv p.bw.length)(hl:l.length<=mx)(hr:∀x∈l,ib x p.bw.length=true):
 Ev SJ [aa (ints l),J (bW s),J (bC 2 w),J (dP 3 4 p lf),ah (bf ro),.ab 0 cn] (0,[ak (l.any λo=> !iL s (cM p.bw o)),J (bW s),J (bC 2 w),J (dP 3 4 p lf),ah (bf ro),.ab 0 cn]):=by
 have hsm:=hs.le ct.ol.len;refine JL (st:=[J (bW s),J (bC 2 w),J (dP 3 4 p lf),ah (bf ro),.ab 0 cn]) (LF:=λN m=>Hf (FU CX EE N) N m [aa (ints l),iI (ln (ints l)),iI 0,J (bW s),J (bC 2 w),J (dP 3 4 p lf),ah (bf ro),.ab 0 cn])
  (IX:=λN _=>FU CX EE N SR [aa (ints l),J (bW s),J (bC 2 w),J (dP 3 4 p lf),ah (bf ro),.ab 0 cn])
  (scan (LF:=λi N m=>Hf (FU CX EE N) N m [aa (ints l),iI (ln (ints l)),iI (i:Int),J (bW s),J (bC 2 w),J (dP 3 4 p lf),ah (bf ro),.ab 0 cn]) ?_ λi hi r q1 q2=> ?_) (λi hi=> ?_) (λhi=> ?_) λi hi=> ?_
 ·exact bF aaY (aC dU (af (xM)))
 ·refine bF aaY (bu (dr hi) (aH (cH hi) ?_));rw [hc,fM hi,ix hi hl];have hx:=hr l[i] (dO hi);have q:Ev Uc [iI l[i],J (bW s),J (bC 2 w),J (dP 3 4 p lf),ah (bf ro),.ab 0 cn] (0,[ak (!iL s (cM p.bw l[i])),J (bW s),J (bC 2 w),J (dP 3 4 p lf),ah (bf ro),.ab 0 cn]):=by
   refine bz as5 (aH (by show ib l[i] (cf p.bw).length =true;rw [pb];exact hx) ?_);erw [hc,lM hx];exact aj (aNn hsm (ct.ol.ok (qq hx))) aL
  refine aj q ?_;exact P1
 ·refine bz aba ?_;rw [hc];exact Yy
 ·refine bz aba ?_;rw [hc];exact Yz
 ·refine bz aoM ?_;rw [hc];refine aj hi (af ?_);erw [hc];rfl
def fitAll(p:PG)(s:SO)(b:Bool)(l:cT):Bool:=b&& !(l.any λo=> !iL s (cM p.bw o))
include ct hc in
theorem Rq(h:Ev xo [J (bC 0 w),J (aU e),J (dP 1 2 p lf),ah (bf ro),.ab 0 cn] (0,J (bW s):: ak b::gk p ro lf cn))(hs:b=true->s.Inv p.bw.length)(hl:l.length<=mx)(hr:∀x∈l,ib x p.bw.length=true):
 Ev zl [J (bC 0 w),J (aU e),aa (ints l),J (dP 1 2 p lf),ah (bf ro),.ab 0 cn] (0,ak (fitAll p s b l)::gk p ro lf cn):=by
 refine bz avb ?_;rw [hc,eG];refine aj h ?_;cases b with
 |false=>exact Ck
 |true=>
  refine aX ?_;erw [hc];refine aj (aE7 ct hc (hs rfl) hl hr) (af ?_);erw [hc];rfl
include ct in
theorem Rp{t:SO}(h:Ev Bu [bL p ro w,J (aU e)] (0,[J (bW t),ak b]))(hs:b=true->t.Inv p.bw.length){o:Int}(ho:ib o p.bw.length=true):
 Ev Bh [bL p ro w,J (aU e),iI o] (0,[ak (b&&iL t (cM p.bw o))]):=by
 refine bz at2 ?_;rw [eG];refine aj h ?_;cases b with
 |false=>exact fX
 |true=>
  refine aX (aH (by show ib o (cf p.bw).length =true;rw [pb];exact ho) ?_);erw [lM ho];exact aj (aNm ((hs rfl).le ct.ol.len) (ct.ol.ok (qq ho))) aL
end
end
end Go.Proofs.YtomkobcipaligaaGreatDoor
namespace Go.az
def PT{p:Prop}(h:p:=by have:=hw.loops;simp only [mx];omega):p:=h
def PJ{p:Prop}(h:p:=by unfold qb;rw [hk,hg];rfl):p:=h
def ahP{p:Prop}(h:p:=by rw [this];unfold lQ qL qK qJ;rw [k1,k2,eq_of_beq k2];rfl):p:=h
def ahC{p:Prop}(h:p:=by rw [this];unfold lQ qL qK qJ;rw [k1,eq_of_beq k1];rfl):p:=h
end Go.az
namespace Go.Proofs.YtomkobcipaligaaGreatDoor
open Go Go.az
theorem wy(e:CE):nz (gA ([e].map aU) 0)=aU e:=eG e
structure PlR(n:Nat)(k O:Int)(l l':cT):Prop where
 mem:∀x,x∈l ↔ x∈l'
 jj:∀x∈l,ib x n=true
 len:l.length<=mx
 anu:l'.length<=mx
 one:k≠3->l=[O]∧l'=[O]
section
variable {p:PG} {ro:List RO} (ct:CT p ro) {w:WH} (hw:w.Ok) {cn:aZ} (hc:ay (au cn)=cn) {lf:Int} (hE:ml)
include hw hc in
theorem aL0{l:cT}(hl:l.length<=mx):
 Ev LC [aa (ints l),J (bC 1 w),J (dP 2 3 p lf),ah (bf ro),.ab 0 cn] (0,[ak (l.any λo=>dJ w.loops o),J (bC 1 w),J (dP 2 3 p lf),ah (bf ro),.ab 0 cn]):=by
 refine JL (st:=[J (bC 1 w),J (dP 2 3 p lf),ah (bf ro),.ab 0 cn]) (LF:=λN m=>Hc (FU CX EE N) N m [aa (ints l),iI (ln (ints l)),iI 0,J (bC 1 w),J (dP 2 3 p lf),ah (bf ro),.ab 0 cn])
  (IX:=λN _=>FU CX EE N SK [aa (ints l),J (bC 1 w),J (dP 2 3 p lf),ah (bf ro),.ab 0 cn])
  (scan (LF:=λi N m=>Hc (FU CX EE N) N m [aa (ints l),iI (ln (ints l)),iI (i:Int),J (bC 1 w),J (dP 2 3 p lf),ah (bf ro),.ab 0 cn]) ?_ λi hi r q1 q2=> ?_) (λi hi=> ?_) (λhi=> ?_) λi hi=> ?_
 ·exact bF aaV (aC dU (af (xM)))
 ·refine bF aaV (bu (dr hi) (aH (cH hi) ?_));rw [hc,fM hi,ix hi hl];have q:Ev TC [iI l[i],J (bC 1 w),J (dP 2 3 p lf),ah (bf ro),.ab 0 cn] (0,[ak (dJ w.loops l[i]),J (bC 1 w),J (dP 2 3 p lf),ah (bf ro),.ab 0 cn]):=by
   refine bz arw ?_;rw [hc];exact aj (uI (l:=w.loops) l[i] (PT)) aL
  refine aj q ?_;exact P1
 ·refine bz aa1 ?_;rw [hc];exact Yy
 ·refine bz aa1 ?_;rw [hc];exact Yz
 ·refine bz aox ?_;rw [hc];refine aj hi (af ?_);erw [hc];rfl
def lQ(k:Int):Int:=bif k==1 then 0 else 1
abbrev K0(p:PG)(lf:Int):AV:= J (dP 1 2 p lf)
noncomputable abbrev X0 (p:PG) (ro:List RO) (w:WH) (lf:Int) (cn:aZ) (q:PL) (N:Nat):Option UO:=
 bO (A9 (FU CX EE N) N [iI (lQ q.kind),K0 p lf,ah (bf ro),.ab 0 cn,J (bC 0 w),J (cX q),J [aq,aq,.aA 6,iI 0,iI 0],aa []]) λq4 o4=>bif Nat.beq q4 0 then bO (LS (FU CX EE N) N [J (sT (aF (gC o4 0)) aM),ah (gR o4 1),.ab 0 (ay (au (gR o4 2))),J (sT (ba (gC o4 3)) bG),J (Mw (gC o4 4)),J (js (gC o4 5))]) λmy cL=>bif Nat.beq my 0 then bO (FU CX EE N LC [aa (gR cL 0),J (sT (ba (gC cL 4)) gf),J (sT (aF (gC cL 1)) fZ),ah (gR cL 2),.ab 0 (ay (au (gR cL 3)))]) λ_ cP=>some (0,[aa (gR cL 0),ak (!(gB cP 0)),J (sT (aF (gC cP 2)) aM),ah (gR cP 3),.ab 0 (ay (au (gR cP 4)))])else some (0,[aa (gR cL 7),ak (gB cL 0),J (sT (aF (gC cL 1)) aM),ah (gR cL 2),.ab 0 (ay (au (gR cL 3)))])else some (0,[aa (gR o4 7),ak (gB o4 0),J (sT (aF (gC o4 1)) aM),ah (gR o4 2),.ab 0 (ay (au (gR o4 3)))])
def qL(q:PL):Int:=bif q.kind==3 then 0 else q.O
def qK(q:PL):Int:=bif q.kind==3 then 0 else q.off
def qJ(q:PL):Int:=bif q.kind==2 then q.len else 0
def mR(k:Int):Bool:=bif k==1 then true else bif k==2 then true else k==3
include hc in
theorem aEu(q:PL):bM Tw [iI 1,K0 p lf,ah (bf ro),.ab 0 cn,J (cX q),J [bE q.kind,iI 0,iI 0,iI 0,.aA 5],aT []]
 (bif mR q.kind then(0,[iI (lQ q.kind),K0 p lf,ah (bf ro),.ab 0 cn,J (cX q),J [bE q.kind,iI (qL q),iI (qK q),iI (qJ q),.aA 5],aT []])
   else(1,[aq,K0 p lf,ah (bf ro),.ab 0 cn,J (cX q),J [bE q.kind,iI 0,iI 0,iI 0,.aA 6],aa [],aT []])):=by
 refine bU aqO ?_;rw [hc];refine av (c:=q.kind==1) (λk1=>af ?_) λk1=>av (c:=q.kind==2) (λk2=>af ?_) λk2=>av (c:=q.kind==3) (λk3=>af ?_) λk3=>af ?_
 ·have:mR q.kind=true:=by unfold mR;rw [k1];rfl
  exact ahC
 ·have:mR q.kind=true:=by unfold mR;rw [k1,k2];rfl
  exact ahP
 ·have:mR q.kind=true:=by unfold mR;rw [k1,k2,k3];rfl
  rw [this];unfold lQ qL qK qJ;rw [k1,k2,k3];rfl
 ·have:mR q.kind=false:=by unfold mR;rw [k1,k2,k3];rfl
  exact eX
def km(q:PL):Bool:=(qL q==q.O)&&((qK q==q.off)&&((qJ q==q.len)&&((q.E.length:Int)==lQ q.kind)))
include hc in
theorem aEt(q:PL):bM Tv [iI (lQ q.kind),K0 p lf,ah (bf ro),.ab 0 cn,J (cX q),J [bE q.kind,iI (qL q),iI (qK q),iI (qJ q),.aA 5],aT []]
 (bif km q then(0,[K0 p lf,ah (bf ro),.ab 0 cn,J (cX q),J [bE q.kind,iI (qL q),iI (qK q),iI (qJ q),.aA 5],aT []])
   else(1,[aq,K0 p lf,ah (bf ro),.ab 0 cn,J (cX q),J [bE q.kind,iI (qL q),iI (qK q),iI (qJ q),.aA 6],aa [],aT []])):=by
 refine bU aqN ?_;rw [hc];refine av (c:=qL q != q.O) (λh=>af ?_) λh=>av (c:=qK q != q.off) (λh2=>af ?_) λh2=>av (c:=qJ q != q.len) (λh3=>af ?_) λh3=>av (c:=ln (q.E.map aU) != lQ q.kind) (λh4=>af ?_) λh4=>af ?_
 ·have:km q=false:=by unfold km;rw [gX h];rfl
  exact eX
 ·have:km q=false:=by unfold km;rw [cN h,gX h2];rfl
  exact eX
 ·have:km q=false:=by unfold km;rw [cN h,cN h2,gX h3];rfl
  exact eX
 ·rw [dq]at h4;have:km q=false:=by unfold km;rw [cN h,cN h2,cN h3,gX h4];rfl
  exact eX
 ·rw [dq]at h4;have:km q=true:=by unfold km;rw [cN h,cN h2,cN h3,cN h4];rfl
  exact eX
def qb(q:PL):Bool:=mR q.kind&&km q
include hc in
theorem sd{q:PL}{r:UO}(h0:qb q=false->(0,aa []:: aq::gk p ro lf cn)=r)(h1:qb q=true->E (λN _=>X0 p ro w lf cn q N) r):
 Ev Be [J (bC 0 w),J (cX q),K0 p lf,ah (bf ro),.ab 0 cn] r:=by
 refine bz as3 ?_;rw [hc];refine aj (aEu (lf:=lf) hc q) ?_;cases hk:mR q.kind with
 |false=>
  refine bj (af ?_);rw [<-h0 (by unfold qb;rw [hk];rfl)];erw [hc];rfl
 |true=>
  refine aX ?_;simp only [cg];erw [hc];refine aj (aEt (lf:=lf) hc q) ?_;cases hg:km q with
  |false=>
   refine bj (af ?_);rw [<-h0 (PJ)];erw [hc];rfl
  |true=>
   have h1:=h1 (PJ);refine aX ?_;simp only [cg];erw [hc];exact h1
end
section
variable{a b f o:Int}{l:List OB}{q:PL}{s:SO}
theorem aLZ(h:qb q=true)(k1:(q.kind==1)=true):q.E=[]:=by
 unfold qb km at h;simp only [bS]at h;have:=eq_of_beq h.2.2.2.2;rw [show lQ q.kind=0 by unfold lQ;rw [k1];rfl]at this;exact BL (by omega)
theorem am7(h:qb q=true)(k1:(q.kind==1)=false):∃e,q.E=[e]:=by
 unfold qb km at h;simp only [bS]at h;have:=eq_of_beq h.2.2.2.2;rw [show lQ q.kind=1 by unfold lQ;rw [k1];rfl]at this
 match hE:q.E with
 | [e]=>exact⟨e,rfl⟩
 | []=>rw [hE]at this;simp at this
 |_::_::_=>rw [hE]at this;simp at this;omega
theorem aLY(h:qb q=true)(k1:(q.kind==1)=false)(k2:(q.kind==2)=false):(q.kind==3)=true:=by
 unfold qb mR at h;rw [k1,k2]at h;simp only [cC,bS]at h;exact h.1
theorem IM(hs:jg l o f=true):ib o l.length=true:=by
 unfold jg at hs;exact JE
theorem ag4{n:Int}(hs:mJ l o f n=true):ib o l.length=true:=by
 unfold mJ at hs;exact JE
section
variable {p:PG} {ro:List RO} (ct:CT p ro) {w:WH} (hw:w.Ok) {cn:aZ} (hc:ay (au cn)=cn) {lf:Int} (hE:ml)
include hc in
theorem aCn(k1:(q.kind==1)=true):bM A9 [iI (lQ q.kind),K0 p lf,ah (bf ro),.ab 0 cn,J (bC 0 w),J (cX q),J [aq,aq,.aA 6,iI 0,iI 0],aa []]
 (0,[K0 p lf,ah (bf ro),.ab 0 cn,J (bC 0 w),J (cX q),J (bW kf)]):=by
 rw [show lQ q.kind=0 by unfold lQ;rw [k1];rfl];refine bU abB (bj (af ?_));rw [hc];rfl
include hc in
theorem aCm{e:CE}(k1:(q.kind==1)=false)(he:q.E=[e]){b:Bool}(h:Ev xo [J (bC 0 w),J (aU e),J (dP 1 2 p lf),ah (bf ro),.ab 0 cn] (0,J (bW s):: ak b::gk p ro lf cn)):
 bM A9 [iI (lQ q.kind),K0 p lf,ah (bf ro),.ab 0 cn,J (bC 0 w),J (cX q),J [aq,aq,.aA 6,iI 0,iI 0],aa []]
 (bif b then(0,[K0 p lf,ah (bf ro),.ab 0 cn,J (bC 0 w),J (cX q),J (bW s)])else(1,[aq,K0 p lf,ah (bf ro),.ab 0 cn,J (bC 0 w),J (cX q),J (bW s),aa []])):=by
 rw [show lQ q.kind=1 by unfold lQ;rw [k1];rfl];refine bU abB (aX ?_);rw [hc,show gR (cX q) 4=[e].map aU by rw [<-he];rfl,wy];refine aH rfl (aj h ?_);erw [hc];cases b with
 |false=>exact mG
 |true=>exact fX
def jC(p:PG)(ro:List RO)(w:WH)(q:PL)(s:SO):Bool:=
 bif q.kind==1 then(jg p.bw q.O q.off&&iD ro w q.O)else bif q.kind==2 then(!s.ptr&&(mJ p.bw q.O q.off q.len&&iD ro w q.O))else(s.ptr||s.null)
def qI(q:PL)(s:SO):cT:=bif q.kind==1 then [q.O]else bif q.kind==2 then [q.O]else s.set
include ct hw hc in
theorem aCo(q:PL)(s:SO):bM LS [K0 p lf,ah (bf ro),.ab 0 cn,J (bC 0 w),J (cX q),J (bW s)]
 (bif jC p ro w q s then(0,[aa (ints (qI q s)),K0 p lf,ah (bf ro),.ab 0 cn,J (bC 0 w),J (cX q),J (bW s)])
   else(1,[aq,K0 p lf,ah (bf ro),.ab 0 cn,J (bC 0 w),J (cX q),J (bW s),aa []])):=by
 have kp:∀{o:Int},ib o p.bw.length=true->ib o ro.length=true:=λh=>by rw [ct.len];exact h
 refine bU apY ?_;rw [hc];refine av (c:=q.kind==1) (λk1=> ?_) λk1=>av (c:=q.kind==2) (λk2=> ?_) λk2=> ?_
 ·refine aj (P5 (l:=p.bw) (en:= -1) (o:=q.O) (off:=q.off)) (av (c:= !jg p.bw q.O q.off) (λh=>af ?_) λh=> ?_)
  ·simp only [dT]at h;have:jC p ro w q s=false:=by unfold jC;rw [k1,h];rfl
   exact eX
  ·simp only [dF]at h;refine aj (J9 hw hc (kp (IM h))) ?_;erw [hc];refine av (c:= !iD ro w q.O) (λh'=>af ?_) λh'=>af ?_
   ·simp only [dT]at h';have:jC p ro w q s=false:=by unfold jC;rw [k1,h,h'];rfl
    exact eX
   ·simp only [dF]at h';have:jC p ro w q s=true:=by unfold jC;rw [k1,h,h'];rfl
    rw [this];unfold qI;rw [k1];rfl
 ·have hj:bM S3 [K0 p lf,ah (bf ro),.ab 0 cn,J (bC 0 w),J (cX q),J (bW s)]
   (bif jC p ro w q s then(0,[K0 p lf,ah (bf ro),.ab 0 cn,J (bC 0 w),J (cX q),J (bW s)])else(1,[aq,K0 p lf,ah (bf ro),.ab 0 cn,J (bC 0 w),J (cX q),J (bW s),aa []])):=by
   refine bU apB ?_;rw [hc];refine av (c:=s.ptr) (λh=>af ?_) λh=>aj (amX (l:=p.bw) (en:= -1) (o:=q.O) (off:=q.off) (n:=q.len)) (av (c:= !mJ p.bw q.O q.off q.len) (λh2=>af ?_) λh2=> ?_)
   ·have:jC p ro w q s=false:=by unfold jC;rw [k1,k2,h];rfl
    exact eX
   ·simp only [dT]at h2;have:jC p ro w q s=false:=by unfold jC;rw [k1,k2,h,h2];rfl
    exact eX
   ·simp only [dF]at h2;refine aj (J9 hw hc (kp (ag4 h2))) ?_;erw [hc];refine av (c:= !iD ro w q.O) (λh'=>af ?_) λh'=>af ?_
    ·simp only [dT]at h';have:jC p ro w q s=false:=by unfold jC;rw [k1,k2,h,h2,h'];rfl
     exact eX
    ·simp only [dF]at h';have:jC p ro w q s=true:=by unfold jC;rw [k1,k2,h,h2,h'];rfl
     exact eX
  refine aj hj ?_;cases hp:jC p ro w q s with
  |false=>exact Ck
  |true=>refine aX (af ?_);erw [hc];unfold qI;rw [k1,k2];rfl
 ·refine av (c:= !s.ptr) (λh=>av (c:= !s.null) (λh2=>af ?_) λh2=>af ?_) λh=>af ?_
  ·simp only [dT]at h h2;have:jC p ro w q s=false:=by unfold jC;rw [k1,k2,h,h2];rfl
   exact eX
  ·simp only [dF]at h2;have:jC p ro w q s=true:=by unfold jC;rw [k1,k2,h2];simp
   rw [this];unfold qI;rw [k1,k2];rfl
  ·simp only [dF]at h;have:jC p ro w q s=true:=by unfold jC;rw [k1,k2,h];simp
   rw [this];unfold qI;rw [k1,k2];rfl
include ct hw hc in
theorem IN(hs:(qI q s).length <=mx)
 (h:bM A9 [iI (lQ q.kind),K0 p lf,ah (bf ro),.ab 0 cn,J (bC 0 w),J (cX q),J [aq,aq,.aA 6,iI 0,iI 0],aa []] (0,[K0 p lf,ah (bf ro),.ab 0 cn,J (bC 0 w),J (cX q),J (bW s)])):
 E (λN _=>X0 p ro w lf cn q N) (bif jC p ro w q s then(0,aa (ints (qI q s)):: ak (!((qI q s).any λo=>dJ w.loops o))::gk p ro lf cn)else(0,aa []:: aq::gk p ro lf cn)):=by
 refine aj h (aX ?_);erw [hc];refine aj (aCo ct hw hc q s) ?_;cases hp:jC p ro w q s with
 |false=>exact Ck
 |true=>
  refine aX ?_;simp only [cg];erw [hc];refine aj (aL0 hw hc hs) (af ?_);exact j5
include hc in
theorem IP(h:bM A9 [iI (lQ q.kind),K0 p lf,ah (bf ro),.ab 0 cn,J (bC 0 w),J (cX q),J [aq,aq,.aA 6,iI 0,iI 0],aa []] (1,[aq,K0 p lf,ah (bf ro),.ab 0 cn,J (bC 0 w),J (cX q),J (bW s),aa []])):
 E (λN _=>X0 p ro w lf cn q N) (0,aa []:: aq::gk p ro lf cn):=by
 refine aj h (bj (af ?_));erw [hc];rfl
theorem aDr(q:PL):bM VL [iI 0,J (cX q),J [bE q.kind,iI 0,iI 0,iI 0,.aA 2],aT []]
 (bif mR q.kind then(0,[iI (lQ q.kind),J (cX q),J [bE q.kind,iI (qL q),iI (qK q),iI (qJ q),.aA 2],aT []])
   else(1,[aq,J (cX q),J [bE q.kind,iI 0,iI 0,iI 0,.aA 3],aa [],aT []])):=by
 refine bU axl ?_;refine av (c:=q.kind==1) (λk1=>af ?_) λk1=>av (c:=q.kind==2) (λk2=>af ?_) λk2=>av (c:=q.kind==3) (λk3=>af ?_) λk3=>af ?_
 ·have:mR q.kind=true:=by unfold mR;rw [k1];rfl
  exact ahC
 ·have:mR q.kind=true:=by unfold mR;rw [k1,k2];rfl
  exact ahP
 ·have:mR q.kind=true:=by unfold mR;rw [k1,k2,k3];rfl
  rw [this];unfold lQ qL qK qJ;rw [k1,k2,k3];rfl
 ·have:mR q.kind=false:=by unfold mR;rw [k1,k2,k3];rfl
  exact eX
theorem ZB(h:(a != b)=true):(b==a)=false:=by simp at h⊢;exact λh'=>h h'.symm
theorem F4(h:(a != b)=false):(b==a)=true:=by simp at h⊢;exact h.symm
theorem aDq(q:PL):bM VK [iI (lQ q.kind),J (cX q),J [bE q.kind,iI (qL q),iI (qK q),iI (qJ q),.aA 2],aT []]
 (bif km q then(0,[J (cX q),J [bE q.kind,iI (qL q),iI (qK q),iI (qJ q),.aA 2],aT []])
   else(1,[aq,J (cX q),J [bE q.kind,iI (qL q),iI (qK q),iI (qJ q),.aA 3],aa [],aT []])):=by
 refine bU axk ?_;refine av (c:=ln (q.E.map aU) != lQ q.kind) (λh4=>af ?_) λh4=>av (c:=q.O != qL q) (λh=>af ?_) λh=>av (c:=q.off != qK q) (λh2=>af ?_) λh2=>av (c:=q.len != qJ q) (λh3=>af ?_) λh3=>af ?_
 ·rw [dq]at h4;have:km q=false:=by unfold km;rw [gX h4];simp
  exact eX
 ·have:km q=false:=by unfold km;rw [ZB h];rfl
  exact eX
 ·have:km q=false:=by unfold km;rw [F4 h,ZB h2];rfl
  exact eX
 ·have:km q=false:=by unfold km;rw [F4 h,F4 h2,ZB h3];rfl
  exact eX
 ·rw [dq]at h4;have:km q=true:=by unfold km;rw [F4 h,F4 h2,F4 h3,cN h4];rfl
  exact eX
theorem N7{t:SO}{b:Bool}(he:∀e,q.E=[e]->Ev BX [jM l [] (-1),J (aU e)] (0,[J (bW t),ak b])):
 Ev zr [bJ (cf l),J (cX q)] (bif qb q then bif q.kind==1 then(0,[aa (ints [q.O]),ak (jg l q.O q.off)])else bif q.kind==2 then(0,[aa (ints [q.O]),ak (b&&(!t.ptr&&mJ l q.O q.off q.len))])else(0,[aa (ints t.set),ak (b&&(t.ptr||t.null))])else(0,[aa [],aq])):=by
 refine bz azK (aj (aDr q) ?_);cases hk:mR q.kind with
 |false=>
  have:qb q=false:=by unfold qb;rw [hk];rfl
  rw [this];exact fX
 |true=>
  refine aX ?_;simp only [cg];refine aj (aDq q) ?_;cases hg:km q with
  |false=>
   have:qb q=false:=PJ;rw [this];exact fX
  |true=>
   have hF:qb q=true:=PJ;rw [hF];refine aX ?_;simp only [cg];refine av (c:=q.kind==1) (λk1=> ?_) λk1=> ?_
   ·exact aj aj6 (af (by rw [k1];rfl))
   ·obtain⟨e,hq⟩:=am7 hF k1;have ux:=he e hq;rw [<-wy e,<-hq]at ux;refine aH (by show decide (0<ln (q.E.map aU))=true;rw [hq];rfl) (aj ux (av (c:=q.kind==2) (λk2=> ?_) λk2=> ?_))
    ·rw [k1,k2];cases b with
     |false=>exact fX
     |true=>
      refine aX (av (c:= !t.ptr) (λh=>aj ak9 (af ?_)) λh=>af ?_)
      ·exact fY
      ·exact fY
    ·rw [k1,k2];cases b with
     |false=>exact fX
     |true=>
      refine aX (av (c:=t.ptr) (λh=>af ?_) λh=>af ?_)
      ·exact fY
      ·exact fY
end
end
end Go.Proofs.YtomkobcipaligaaGreatDoor
namespace Go.az
def anl{p:Prop}(h:p:=by
 cases hi:dJ w.loops q.O with
 |true=>
  rw [hi]at hX;refine⟨[q.O],[],false,sd hc (λh=>by rw [hF]at h;cases h) λ_=>E.to hC ?_,hX,λh=>by cases h⟩;simp only [IB,WX,hi];rfl
 |false=>
  rw [hi]at hX;refine⟨[q.O],[q.O],true,sd hc (λh=>by rw [hF]at h;cases h) λ_=>E.to hC ?_,hX,λ_=>⟨λ_=>Iff.rfl,λx hx=>by simp at hx;subst hx;exact sZ,one_le _,one_le _,λ_=>⟨rfl,rfl⟩⟩⟩;simp only [IB,WX,hi];rfl):p:=h
def uU{p:Prop}(h:p:=by rw [hF]at h;cases h):p:=h
def uO{p:Prop}(h:p:=by rw [he];simp):p:=h
def ajs{p:Prop}(h:p:=by
 simp only [IB,WX,Xd,uc,k3];cases dJ w.loops q.O<;>rfl):p:=h
def aif{p:Prop}(h:p:=by rw [he]at h';simp at h';subst h';exact h2):p:=h
end Go.az
namespace Go.az
def IH:=@Bool.and_assoc
def WX:=@List.any_nil
end Go.az
namespace Go.Proofs.YtomkobcipaligaaGreatDoor
open Go Go.az
section
variable{q:PL}{l:cT}
theorem one_le(x:Int): [x].length <=mx:=by show 1<=1048576;omega
section
variable {p:PG} {ro:List RO} (ct:CT p ro) {w:WH} (hw:w.Ok) {cn:aZ} (hc:ay (au cn)=cn) {lf:Int} (hE:ml)
def uc(ro:List RO)(w:WH)(q:PL)(x:Int):Bool:=bif dJ w.loops x then true else bif q.kind != 3 then !iD ro w x else false
include hw in
theorem Zx(hq:q.Ok)(hl:l.length<=mx){f:CE->Bool}(h:Ev zr [bJ (cf p.bw),J (cX q)] (0,[aa (ints l),cu]))
 (hf:∀e∈q.E,Ev uF [bL p ro w,J (aU e)] (0,[ak (f e)])) (hr:(q.kind != 3)=true->∀x∈l,ib x ro.length=true):
 Ev Bs [bL p ro w,J (cX q)] (bif q.E.any (λe=> !f e)then(0,[aa [],aq])else bif l.any (uc ro w q)then(0,[aa [],aq])else(0,[aa (ints l),cu])):=by
 have k1:=oY (l:=q.E) (p:=λe=> !f e) (hit:=(0,[aq,bL p ro w,J (cX q),aa []])) (done:=(1,[bL p ro w,J (cX q)])) (LF:=λi N m=>Mh (FU CX EE N) N m [iI (i:Int),bL p ro w,J (cX q)])
  (bF ab6 (aC (dU (f:=aU) (l:=q.E)) aL))
  λi hi r h2 h3=>bF ab6<|bu (dr (f:=aU) hi)<|aH (cH (f:=aU) hi)<|by
   rw [show gR (cX q) 4=q.E.map aU from rfl,su hi,ix hi hq.1];exact aj (hf _ (dO hi)) (av (λpF=>af (h2 pF)) h3)
 have k2:=oY (l:=l) (p:=uc ro w q) (hit:=(0,[aq,bL p ro w,J (cX q),aa []])) (done:=(1,[bL p ro w,J (cX q)])) (LF:=λi N m=>Hw (FU CX EE N) N m [aa (ints l),iI (i:Int),bL p ro w,J (cX q)])
  (bF ab5 (aC dU aL))
  λi hi r h2 h3=>bF ab5<|bu (dr hi)<|aH (cH hi)<|by
   rw [fM hi,ix hi hl];refine aj (um (l:=w.loops) l[i] (PT)) (av (c:=dJ w.loops l[i]) (λa=>af (h2 (by unfold uc;rw [a];rfl))) λa=>av (c:=q.kind != 3) (λb=>aH (cH hi) ?_) λb=>h3 (by unfold uc;rw [a,b];rfl));exact aj (Rb hw (hr b _ (dO hi))) (av (c:= !iD ro w l[i]) (λc=>af (h2 (by unfold uc;rw [a,b,c];rfl))) λc=>h3 (by unfold uc;rw [a,b,c];rfl))
 refine bz adg (aj h (bj ?_));have kJ:bM Up [bL p ro w,J (cX q)] (bif q.E.any (λe=> !f e)then(1,[aq,bL p ro w,J (cX q),aa []])else(0,[bL p ro w,J (cX q)])):=by
  refine bU asX (aj k1.diag ?_);cases q.E.any (λe=> !f e)with
  |true=>exact mG
  |false=>exact fX
 refine aj kJ ?_;cases q.E.any (λe=> !f e)with
 |true=>exact fX
 |false=>
  refine aX (aj k2.diag ?_);cases l.any (uc ro w q)with
  |true=>exact mG
  |false=>exact fX
theorem FE(h:Ev zr [bJ (cf p.bw),J (cX q)] (0,[aa (ints l),aq])):
 Ev Bs [bL p ro w,J (cX q)] (0,[aa [],aq]):=
 bz adg (aj h (aX aL))
include ct hw hc hE in
theorem aE8(e:CE)(bB:e.Ok):∃s t b0 b,
 Ev xo [J (bC 0 w),J (aU e),J (dP 1 2 p lf),ah (bf ro),.ab 0 cn] (0,J (bW s):: ak b::gk p ro lf cn)∧
 Ev BX [jM p.bw [] (-1),J (aU e)] (0,[J (bW t),ak b0])∧(b0=false->b=false)∧(b0=true->RI p.bw.length s t∧Ev uF [bL p ro w,J (aU e)] (0,[ak b])):=by
 obtain⟨s,t,b,h1,h2,h3⟩:=RT hE ct.ol (-1) e bB;cases b with
 |false=>
  refine⟨s,t,false,false,bz Mk ?_,h2,λ_=>rfl,λh=>bh⟩;rw [hc,eG];exact aj h1 (bj aL)
 |true=>
  obtain⟨ri,dX⟩:=h3 rfl;obtain⟨b,u1,u2⟩:=aj4 ct hw hc (lf:=lf) e bB dX;refine⟨s,t,true,b,bz Mk ?_,h2,(λh=>bh),λ_=>⟨ri,u2⟩⟩;rw [hc,eG];refine aj h1 (aX (aj u1 (af ?_)));exact j5
include ct hw hc hE in
theorem plE(hq:q.Ok):∃l l' b,
 Ev Be [J (bC 0 w),J (cX q),K0 p lf,ah (bf ro),.ab 0 cn] (0,aa (ints l):: ak b::gk p ro lf cn)∧
 Ev Bs [bL p ro w,J (cX q)] (0,[aa (ints l'),ak b])∧(b=true->PlR p.bw.length q.kind q.O l l'):=by
 have kp:∀{o:Int},ib o p.bw.length=true->ib o ro.length=true:=λh=>by rw [ct.len];exact h
 cases hF:qb q with
 |false=>
  have hp:=N7 (l:=p.bw) (q:=q) (t:=kf) (b:=false);refine⟨[],[],false,sd hc (λ_=>rfl) (λh=>uU),?_,λh=>bh⟩
  by_cases hx:∃e,q.E=[e]
  ·obtain⟨e,he⟩:=hx;obtain⟨s,t,b,h1,h2,h3⟩:=RT hE ct.ol (-1) e (hq.2 e (uO));have hp:=N7 (l:=p.bw) (q:=q) (t:=t) (b:=b) λe' h'=>aif;rw [hF]at hp;exact FE (l:=[]) hp
  ·have hp:=hp λe h=>absurd ⟨e,h⟩ hx;rw [hF]at hp;exact FE (l:=[]) hp
 |true=>
  cases k1:q.kind==1 with
  |true=>
   have hE0:=aLZ hF k1;have hp:=N7 (l:=p.bw) (q:=q) (t:=kf) (b:=false) λe h=>by rw [hE0]at h;cases h
   rw [hF,k1]at hp;have hC:=IN ct hw hc (lf:=lf) (s:=kf) (by unfold qI;rw [k1];exact one_le _) (aCn hc k1);have hS:qI q kf=[q.O]:=by unfold qI;rw [k1];rfl
   have hO:jC p ro w q kf=(jg p.bw q.O q.off&&iD ro w q.O):=by unfold jC;rw [k1];rfl
   rw [hS,hO]at hC;cases hs:jg p.bw q.O q.off with
   |false=>
    rw [hs]at hp hC;exact⟨[],[],false,sd hc (λh=>uU) λ_=>hC,FE hp,λh=>bh⟩
   |true=>
    rw [hs]at hp hC;have hX:=Zx (ro:=ro) hw hq (one_le _) (f:=λ_=>true) hp (λe h=>by rw [hE0]at h;cases h) λ_ x hx=>by
     simp at hx;subst hx;exact kp (IM hs)
    rw [hE0]at hX;have k3:(q.kind != 3)=true:=by rw [eq_of_beq k1];rfl
    have hb: [q.O].any (uc ro w q)=(dJ w.loops q.O|| !iD ro w q.O):=ajs;rw [hb]at hX;cases hm:iD ro w q.O with
    |false=>
     rw [hm]at hX hC;refine⟨[],[],false,sd hc (λh=>uU) λ_=>hC,?_,λh=>bh⟩;cases hi:dJ w.loops q.O<;>rw [hi]at hX<;>exact hX
    |true=>
     rw [hm]at hX hC;have sZ:=IM hs;exact anl
  |false=>
   obtain⟨e,he⟩:=am7 hF k1;obtain⟨s,t,b0,b,h1,h2,h3,h4⟩:=aE8 ct hw hc (lf:=lf) hE e (hq.2 e (uO));have hp:=N7 (l:=p.bw) (q:=q) (t:=t) (b:=b0) λe' h'=>aif;rw [hF,k1]at hp;have yA:=aCm hc k1 he h1;cases b0 with
   |false=>
    have:=h3 rfl;subst this;refine⟨[],[],false,sd hc (λh=>uU) λ_=>IP hc yA,?_,λh=>bh⟩;cases k2:q.kind==2<;>rw [k2]at hp<;>exact FE hp
   |true=>
    obtain⟨ri,hu⟩:=h4 rfl;have hfu:∀e'∈q.E,Ev uF [bL p ro w,J (aU e')] (0,[ak ((λ_=>b) e')]):=λe' h'=>by
     rw [he]at h';simp at h';subst h';exact hu
    have anV:(q.E.any λe'=> !(λ_:CE=>b) e')= !b:=uO;cases k2:q.kind==2 with
    |true=>
     rw [k2]at hp;have k3:(q.kind != 3)=true:=by rw [eq_of_beq k2];rfl
     have hS:qI q s=[q.O]:=by unfold qI;rw [k1,k2];rfl
     have hO:jC p ro w q s=(!s.ptr&&(mJ p.bw q.O q.off q.len&&iD ro w q.O)):=by unfold jC;rw [k1,k2];rfl
     rw [<-ri.rel.ptr]at hp;simp only [ox]at hp;cases hs:(!s.ptr&&mJ p.bw q.O q.off q.len)with
     |false=>
      have hp:Ev zr [bJ (cf p.bw),J (cX q)] (0,[aa (ints [q.O]),ak (!s.ptr&&mJ p.bw q.O q.off q.len)]):=hp;rw [hs]at hp;refine⟨[],[],false,sd hc (λh=>uU) λ_=> ?_,FE hp,λh=>bh⟩;cases b with
      |false=>exact IP hc yA
      |true=>
       have hC:=IN ct hw hc (lf:=lf) (s:=s) (by rw [hS];exact one_le _) yA;rw [hS,hO,show(!s.ptr&&(mJ p.bw q.O q.off q.len&&iD ro w q.O))=false by rw [<-IH,hs];rfl]at hC;exact hC
     |true=>
      have hp:Ev zr [bJ (cf p.bw),J (cX q)] (0,[aa (ints [q.O]),ak (!s.ptr&&mJ p.bw q.O q.off q.len)]):=hp;rw [hs]at hp;have sZ:ib q.O p.bw.length=true:=ag4 (bS _ _▸hs).2;have hX:=Zx (ro:=ro) hw hq (one_le _) hp hfu λ_ x hx=>by simp at hx;subst hx;exact kp sZ
      rw [anV]at hX;have hb: [q.O].any (uc ro w q)=(dJ w.loops q.O|| !iD ro w q.O):=ajs;rw [hb]at hX;cases b with
      |false=>exact⟨[],[],false,sd hc (λh=>uU) λ_=>IP hc yA,hX,λh=>bh⟩
      |true=>
       have hC:=IN ct hw hc (lf:=lf) (s:=s) (by rw [hS];exact one_le _) yA;rw [hS,hO,show(!s.ptr&&(mJ p.bw q.O q.off q.len&&iD ro w q.O))=iD ro w q.O by rw [<-IH,hs];rfl]at hC;cases hm:iD ro w q.O with
       |false=>
        rw [hm]at hX hC;refine⟨[],[],false,sd hc (λh=>uU) λ_=>hC,?_,λh=>bh⟩;cases hi:dJ w.loops q.O<;>rw [hi]at hX<;>exact hX
       |true=>
        rw [hm]at hX hC;exact anl
    |false=>
     rw [k2]at hp;have k3:(q.kind != 3)=false:=by simpa using aLY hF k1 k2
     have hS:qI q s=s.set:=by unfold qI;rw [k1,k2];rfl
     have hO:jC p ro w q s=(s.ptr||s.null):=by unfold jC;rw [k1,k2];rfl
     have hl:=ri.l.le ct.ol.len;have vM:=ri.r.le ct.ol.len;have hp:Ev zr [bJ (cf p.bw),J (cX q)] (0,[aa (ints t.set),ak (t.ptr||t.null)]):=hp;rw [<-ri.rel.ptr,<-ri.rel.null]at hp;cases hs:(s.ptr||s.null)with
     |false=>
      rw [hs]at hp;refine⟨[],[],false,sd hc (λh=>uU) λ_=> ?_,FE hp,λh=>bh⟩;cases b with
      |false=>exact IP hc yA
      |true=>
       have hC:=IN ct hw hc (lf:=lf) (s:=s) (by rw [hS];exact hl) yA;rw [hO,hs]at hC;exact hC
     |true=>
      rw [hs]at hp;have hX:=Zx (ro:=ro) hw hq vM hp hfu λh=>by rw [k3]at h;cases h
      rw [anV]at hX;have hb:t.set.any (uc ro w q)=t.set.any λo=>dJ w.loops o:=by
       congr 1;funext x;unfold uc;rw [k3];cases dJ w.loops x<;>rfl
      rw [hb,<-O9 ri.rel.set]at hX;cases b with
      |false=>exact⟨[],[],false,sd hc (λh=>uU) λ_=>IP hc yA,hX,λh=>bh⟩
      |true=>
       have hC:=IN ct hw hc (lf:=lf) (s:=s) (by rw [hS];exact hl) yA;rw [hS,hO,hs]at hC;cases hi:s.set.any λo=>dJ w.loops o with
       |true=>
        rw [hi]at hX hC;exact⟨s.set,[],false,sd hc (λh=>uU) λ_=>hC,hX,λh=>bh⟩
       |false=>
        rw [hi]at hX hC;refine⟨s.set,t.set,true,sd hc (λh=>uU) λ_=>hC,hX,λ_=>⟨ri.rel.set,ri.l.jj,hl,vM,λh=>absurd ?_ h⟩⟩;simpa using k3
end
end
end Go.Proofs.YtomkobcipaligaaGreatDoor
namespace Go.az
def aiV{p:Prop}(h:p:=by show ib t (p.tasks.map cE).length =true;rw [eE];exact hi):p:=h
end Go.az
namespace Go.Proofs.YtomkobcipaligaaGreatDoor
open Go Go.az
section
variable{i:Int}{l:List TK}{q:PL}
def tk0:TK:=⟨0,[],.mk ⟨0,0,0,0,0,0,false,false,false,false,false,0,[],[],[],[],[]⟩ [] [] [] [],0⟩
def ni(l:List TK)(i:Int):TK:=l.getD i.toNat tk0
theorem FQ(h:ib i l.length=true):gA (l.map cE) i.toNat=cE (ni l i):=by
 have:=jf.1 h;have h2:i.toNat<l.length:=by omega
 rw [sf h2];simp [ni,h2]
theorem Xh(h:ib i l.length=true):ni l i∈l:=by
 have:=jf.1 h;have h2:i.toNat<l.length:=by omega
 simp only [ni,mY,dz h2,oR];exact dO h2
def en0:EN:=⟨[],[]⟩
def C4(l:List EN)(i:Int):EN:=l.getD i.toNat en0
theorem Zu{l:List EN}(h:ib i l.length=true):gA (l.map iM) i.toNat=iM (C4 l i):=by
 have:=jf.1 h;have h2:i.toNat<l.length:=by omega
 rw [sf h2];simp [C4,h2]
theorem Xr{l:List EN}(h:ib i l.length=true):C4 l i∈l:=by
 have:=jf.1 h;have h2:i.toNat<l.length:=by omega
 simp only [C4,mY,dz h2,oR];exact dO h2
def pr0:PR:=⟨0,[],[]⟩
def CI(l:List PR)(i:Int):PR:=l.getD i.toNat pr0
theorem JJ{l:List PR}(h:ib i l.length=true):gA (l.map fr) i.toNat=fr (CI l i):=by
 have:=jf.1 h;have h2:i.toNat<l.length:=by omega
 rw [sf h2];simp [CI,h2]
section
variable {p:PG} {ro:List RO} (ct:CT p ro) {w:WH} (hw:w.Ok) {cn:aZ} (hc:ay (au cn)=cn) {lf:Int} (hE:ml)
def jh(p:PG)(t e:Int):Bool:=bif decide (0<=t)then bif decide (t<(p.tasks.length:Int))then bif decide (0<=e)then decide (e<((ni p.tasks t).au.length :Int))else false else false else false
include hc in
theorem Rx(t e:Int):Ev D5 [J (bC 0 w),iI t,iI e,J (dP 1 2 p lf),ah (bf ro),.ab 0 cn] (0,ak (jh p t e)::gk p ro lf cn):=by
 refine bz as6 ?_;rw [hc];refine av (c:=decide (0<=t)) (λh1=>av (c:=decide (t<ln (p.tasks.map cE))) (λh2=>av (c:=decide (0<=e)) (λh3=> ?_) λh3=>af ?_) λh2=>af ?_) λh1=>af ?_
 ·rw [dq]at h2;have hi:=sr h1 h2;refine aH (aiV) (af ?_);show(0,[ak (decide (e<ln (gR (gA (p.tasks.map cE) t.toNat) 1))),_,_,_])=_;rw [FQ hi];show(0,[ak (decide (e<ln ((ni p.tasks t).au.map iM))),_,_,_])=_;rw [dq];unfold jh;rw [h1,h2,h3];rfl
 ·rw [dq]at h2;unfold jh;rw [h1,h2,h3];rfl
 ·rw [dq]at h2;unfold jh;rw [h1,h2];rfl
 ·unfold jh;rw [h1];rfl
theorem Rv(t e:Int):Ev Ei [bL p ro w,iI t,iI e] (0,[ak (jh p t e)]):=by
 refine bz awn ?_;refine av (c:=decide (0<=t)) (λh1=>av (c:=decide (t<ln (p.tasks.map cE))) (λh2=>av (c:=decide (0<=e)) (λh3=> ?_) λh3=>af ?_) λh2=>af ?_) λh1=>af ?_
 ·rw [dq]at h2;have hi:=sr h1 h2;refine aH (aiV) (af ?_);show(0,[ak (decide (e<ln (gR (gA (p.tasks.map cE) t.toNat) 1)))])=_;rw [FQ hi];show(0,[ak (decide (e<ln ((ni p.tasks t).au.map iM)))])=_;rw [dq];unfold jh;rw [h1,h2,h3];rfl
 ·rw [dq]at h2;unfold jh;rw [h1,h2,h3];rfl
 ·rw [dq]at h2;unfold jh;rw [h1,h2];rfl
 ·unfold jh;rw [h1];rfl
theorem XM{t e:Int}(h:jh p t e=true):ib t p.tasks.length=true∧ib e (ni p.tasks t).au.length =true:=by
 unfold jh at h;cases h1:decide (0<=t)<;>rw [h1]at h
 ·exact bh
 cases h2:decide (t<(p.tasks.length:Int))<;>rw [h2]at h
 ·exact bh
 cases h3:decide (0<=e)<;>rw [h3]at h
 ·exact bh
 exact⟨sr h1 h2,sr h3 h⟩
def sv(p:PG)(t e:Int):Bool:=bif decide (0<=t)then bif decide (t<(p.dp.length:Int))then bif decide (0<=e)then decide (e<((CI p.dp t).bars.length :Int))else false else false else false
include hc in
theorem alb(t e:Int):Ev Mr [J (bC 0 w),iI t,iI e,J (dP 1 2 p lf),ah (bf ro),.ab 0 cn] (0,ak (sv p t e)::gk p ro lf cn):=by
 refine bz at5 ?_;rw [hc];refine av (c:=decide (0<=t)) (λh1=>av (c:=decide (t<ln (p.dp.map fr))) (λh2=>av (c:=decide (0<=e)) (λh3=> ?_) λh3=>af ?_) λh2=>af ?_) λh1=>af ?_
 ·rw [dq]at h2;have hi:=sr h1 h2;refine aH (by show ib t (p.dp.map fr).length =true;rw [eE];exact hi) (af ?_);show(0,[ak (decide (e<ln (gR (gA (p.dp.map fr) t.toNat) 2))),_,_,_])=_;rw [JJ hi];show(0,[ak (decide (e<ln ((CI p.dp t).bars.map aU))),_,_,_])=_;rw [dq];unfold sv;rw [h1,h2,h3];rfl
 ·rw [dq]at h2;unfold sv;rw [h1,h2,h3];rfl
 ·rw [dq]at h2;unfold sv;rw [h1,h2];rfl
 ·unfold sv;rw [h1];rfl
def tU(p:PG)(w:WH)(e:Int):Bool:=jh p w.task e&& !dJ w.kE e
include hw hc in
theorem am8(e:Int):Ev My [J (bC 0 w),iI e,J (dP 1 2 p lf),ah (bf ro),.ab 0 cn] (0,ak (tU p w e)::gk p ro lf cn):=by
 refine bz au9 ?_;rw [hc];refine aj (Rx (lf:=lf) hc w.task e) ?_;erw [hc];refine av (c:=jh p w.task e) (λh=>aj (uI (l:=w.kE) e (PX)) (af ?_)) λh=>af ?_
 ·unfold tU;rw [h];rfl
 ·unfold tU;rw [h];rfl
include hw in
theorem Z9(e:Int):Ev Er [bL p ro w,iI e] (0,[ak (tU p w e)]):=by
 refine bz ayb (aj (Rv w.task e) ?_);refine av (c:=jh p w.task e) (λh=>aj (um (l:=w.kE) e (PX)) (af ?_)) λh=>af ?_
 ·unfold tU;rw [h];rfl
 ·unfold tU;rw [h];rfl
include ct hw hc hE in
theorem akg(hq:q.Ok):∃b,Ev Hp [J (bC 0 w),J (cX q),J (dP 1 2 p lf),ah (bf ro),.ab 0 cn] (0,ak b::gk p ro lf cn)∧Ev HB [bL p ro w,J (cX q)] (0,[ak b]):=by
 obtain⟨l,l',b,h1,h2,h3⟩:=plE ct hw hc (lf:=lf) hE hq;cases b with
 |false=>
  refine⟨false,bz Tn ?_,bz Ug (aj h2 (bj aL))⟩;rw [hc];refine aj h1 ?_;erw [hc];exact fX
 |true=>
  have hp:=h3 rfl;cases k3:q.kind != 3 with
  |false=>
   refine⟨false,bz Tn ?_,bz Ug (aj h2 (aX (aC k3 aL)))⟩;rw [hc];refine aj h1 ?_;erw [hc];exact aX (aC k3 aL)
  |true=>
   obtain⟨rfl,rfl⟩:=hp.one (by simpa using k3);have hi:=hp.jj q.O (by simp);have dV:ib q.O (cf p.bw).length =true:=Je;refine⟨!(cM p.bw q.O).ptr,bz Tn ?_,bz Ug (aj h2 (aX (bu k3 (aH rfl (aH dV (af ?_))))))⟩
   ·rw [hc];refine aj h1 ?_;erw [hc];refine aX (bu k3 (aH rfl (aH dV (af ?_))));show(0,[ak (!(gB (gA (cf p.bw) q.O.toNat) 3)),_,_,_])=_;rw [lM hi];rfl
   ·show(0,[ak (!(gB (gA (cf p.bw) q.O.toNat) 3))])=_;rw [lM hi];rfl
include ct hw hc hE in
theorem aFH(hq:q.Ok){e:CE}(he:e.Ok){f:dH}(hT:f.To=[q])(hF:f.E=[e]){L D H A:aZ}:∃l b1 b,
 Ev Be [J (bC 0 w),J (cX q),K0 p lf,ah (bf ro),.ab 0 cn] (0,aa (ints l):: ak b1::gk p ro lf cn)∧
 (b1=true->Ev zl [J (bC 0 w),J (aU e),aa (ints l),K0 p lf,ah (bf ro),.ab 0 cn] (0,ak b::gk p ro lf cn))∧
 Ev VQ [bL p ro w,J (cW f L D H A)] (0,[ak (b1&&b)]):=by
 obtain⟨l,l',b1,h1,h2,h3⟩:=plE ct hw hc (lf:=lf) hE hq;obtain⟨s,t,b,g1,g2,g3⟩:=FR ct hw hc (lf:=lf) hE e he;have rS:gR (cW f L D H A) 14=[q].map cX:=by rw [<-hT];rfl
 have nR:gR (cW f L D H A) 12=[e].map aU:=by rw [<-hF];rfl
 cases b1 with
 |false=>
  refine⟨l,false,false,h1,(λh=>bh),bz ad1 (aH (by rw [rS];rfl) ?_)⟩;erw [rS];exact aj h2 (aX aL)
 |true=>
  have hp:=h3 rfl;have nM:∀x∈l',ib x p.bw.length=true:=λx hx=>hp.jj x ((hp.mem x).2 hx);refine⟨l,true,fitAll p s b l,h1,λ_=>Rq ct hc g1 (λh=>(g3 h).l) hp.len hp.jj,bz ad1 (aH (by rw [rS];rfl) ?_)⟩;have hl:=oY (l:=l') (p:=λo=> !(b&&iL t (cM p.bw o))) (hit:=(0,[aq,bL p ro w,J (cW f L D H A)])) (done:=(1,[bL p ro w,J (cW f L D H A)])) (LF:=λi N m=>Mu (FU CX EE N) N m [aa (ints l'),iI (i:Int),bL p ro w,J (cW f L D H A)])
   (bF acu (aC dU aL))
   λi hi r q1 q2=>bF acu<|bu (dr hi)<|aH (by rw [nR];rfl)<|aH (cH hi)<|by
    erw [nR];rw [fM hi,ix hi hp.anu,wy];exact aj (Rp ct g2 (λh=>(g3 h).r) (nM _ (dO hi))) (av (λpF=>af (q1 pF)) q2)
  erw [rS];refine aj h2 (bj (aH (by rw [nR];rfl) ?_));erw [nR];rw [wy];refine aj g2 (aj hl.diag ?_);have GY:(l'.any λo=> !(b&&iL t (cM p.bw o)))=bif b then(l.any λo=> !iL s (cM p.bw o))else l'.any λ_=>true:=by
   cases b with
   |false=>simp
   |true=>
    have DB:∀o,iL s o=iL t o:=λo=>(g3 rfl).rel.iL o;simp only [ox,cg,DB];exact(O9 hp.mem _).symm
  rw [GY];unfold fitAll;cases b with
  |false=>
   simp only [cC];cases l'.any λ_=>true with
   |true=>exact mG
   |false=>exact fX
  |true=>
   simp only [cg];cases l.any λo=> !iL s (cM p.bw o)with
   |true=>exact mG
   |false=>exact fX
end
end
end Go.Proofs.YtomkobcipaligaaGreatDoor
namespace Go.az
def YI{p:Prop}(h:p:=by rw [dq,dq];cases h:a.length==b.length<;>simp at h⊢<;>omega):p:=h
def zO{p:Prop}(h:p:=by rw [fM hi];rfl):p:=h
def PH{p:Prop}(h:p:=by refine aX (af ?_);erw [hc];rfl):p:=h
def ahL{p:Prop}(h:p:=by
 rw [hc];refine aj jc (bj (af ?_));erw [hc];rfl):p:=h
end Go.az
namespace Go.Proofs.YtomkobcipaligaaGreatDoor
open Go Go.az
theorem afC{m:Nat}{P:Nat->Bool->Prop}(h:∀i,i<m->∃b,P i b):∃f:Nat->Bool,∀i,i<m->P i (f i):=by
 have h':∀i,∃b,i<m->P i b:=λi=>by
  by_cases hi:i<m
  ·obtain⟨b,hb⟩:=h i hi;exact⟨b,λ_=>hb⟩
  ·exact⟨true,λh=>absurd h hi⟩
 obtain⟨f,hf⟩:=W6 h';exact⟨f,hf⟩
section
variable {p:PG} {ro:List RO} (ct:CT p ro) {w:WH} (hw:w.Ok) {cn:aZ} (hc:ay (au cn)=cn) {lf:Int} (hE:ml)
abbrev dY(x:EN):AV:= J [aa (ints x.ins),aa (ints x.outs)]
include ct hc in
theorem aD0{x:EN}{i:Nat}(hi:i<x.outs.length)(hx:ib x.outs[i] p.bw.length=true){l:cT}(hl:l.length<=mx)(hr:∀y∈l,ib y p.bw.length=true):
 Ev SG [aa (ints l),J (bC 3 w),dY x,J [iI (i:Int)],J (dP 4 5 p lf),ah (bf ro),.ab 0 cn] (0,[ak (l.any λo=> !n7 (cM p.bw x.outs[i]) (cM p.bw o)),J (bC 3 w),dY x,J [iI (i:Int)],J (dP 4 5 p lf),ah (bf ro),.ab 0 cn]):=by
 refine JL (st:=[J (bC 3 w),dY x,J [iI (i:Int)],J (dP 4 5 p lf),ah (bf ro),.ab 0 cn]) (LF:=λN m=>He (FU CX EE N) N m [aa (ints l),iI (ln (ints l)),iI 0,J (bC 3 w),dY x,J [iI (i:Int)],J (dP 4 5 p lf),ah (bf ro),.ab 0 cn])
  (IX:=λN _=>FU CX EE N SL [aa (ints l),J (bC 3 w),dY x,J [iI (i:Int)],J (dP 4 5 p lf),ah (bf ro),.ab 0 cn])
  (scan (LF:=λj N m=>He (FU CX EE N) N m [aa (ints l),iI (ln (ints l)),iI (j:Int),J (bC 3 w),dY x,J [iI (i:Int)],J (dP 4 5 p lf),ah (bf ro),.ab 0 cn]) ?_ λj hj r q1 q2=> ?_) (λj hj=> ?_) (λhj=> ?_) λj hj=> ?_
 ·exact bF aaX (aC dU (af (xM)))
 ·refine bF aaX (bu (dr hj) (aH (cH hj) ?_));rw [hc,fM hj,ix hj hl];have hy:=hr l[j] (dO hj);have q:Ev TV [iI l[j],J (bC 3 w),dY x,J [iI (i:Int)],J (dP 4 5 p lf),ah (bf ro),.ab 0 cn] (0,[ak (!n7 (cM p.bw x.outs[i]) (cM p.bw l[j])),J (bC 3 w),dY x,J [iI (i:Int)],J (dP 4 5 p lf),ah (bf ro),.ab 0 cn]):=by
   have ea:gI (gA (ints x.outs) ((i:Int).toNat)) 0=x.outs[i]:=zO;refine bz asl (aH (cH hi) (aH (by show ib (gI (gA (ints x.outs) ((i:Int).toNat)) 0) (cf p.bw).length =true;rw [ea,pb];exact hx) (aH (by show ib l[j] (cf p.bw).length =true;rw [pb];exact hy) ?_)));rw [hc];have e1:gA (cf p.bw) (gI (gA (ints x.outs) ((i:Int).toNat)) 0).toNat =fU (cM p.bw x.outs[i]):=by rw [ea];exact lM hx
   erw [e1,lM hy];exact aj (aaf (ct.ol.ok (qq hx)) (ct.ol.ok (qq hy))) aL
  refine aj q ?_;exact P1
 ·refine bz aa6 ?_;rw [hc];refine aj hj.diag (aX (af ?_));erw [hc];rfl
 ·refine bz aa6 ?_;rw [hc];refine aj hj.diag (bj (af ?_));erw [hc];rfl
 ·refine bz aoE ?_;rw [hc];refine aj hj (af ?_);erw [hc];rfl
theorem Gn(f:CE->Row)(g:Int->Row)(a:List CE)(b:cT):(ln (a.map f) != ln (b.map g))= !(a.length==b.length):=YI
theorem Rc(f:PL->Row)(g:Int->Row)(a:List PL)(b:cT):(ln (a.map f) != ln (b.map g))= !(a.length==b.length):=YI
include ct hw hc hE in
theorem aFn{f:dH}(hf:f.Ok){L D H A:aZ}:∃b,
 Ev Ms [J (bC 0 w),J (cW f L D H A),K0 p lf,ah (bf ro),.ab 0 cn] (0,ak b::gk p ro lf cn)∧
 Ev M3 [bL p ro w,J (cW f L D H A)] (0,[ak b]):=by
 have jc:bM T5 [K0 p lf,ah (bf ro),.ab 0 cn,J (bC 0 w),J (cW f L D H A)]
  (bif !(f.T==w.task)&&jh p f.T f.entry then(0,[K0 p lf,ah (bf ro),.ab 0 cn,J (bC 0 w),J (cW f L D H A)])else(1,[aq,K0 p lf,ah (bf ro),.ab 0 cn,J (bC 0 w),J (cW f L D H A)])):=by
  refine bU asa ?_;rw [hc];refine av (c:=f.T==w.task) (λh=>af (fY)) λh=>aj (Rx (lf:=lf) hc f.T f.entry) ?_;erw [hc];refine av (c:= !jh p f.T f.entry) (λh2=>af ?_) λh2=>af ?_
  ·simp only [dT]at h2;rw [h,h2];rfl
  ·simp only [dF]at h2;rw [h,h2];rfl
 have jr:bM U4 [bL p ro w,J (cW f L D H A)]
  (bif !(f.T==w.task)&&jh p f.T f.entry then(0,[bL p ro w,J (cW f L D H A)])else(1,[aq,bL p ro w,J (cW f L D H A)])):=by
  refine bU au0 ?_;refine av (c:=f.T==w.task) (λh=>af (fY)) λh=>aj (Rv f.T f.entry) ?_;refine av (c:= !jh p f.T f.entry) (λh2=>af ?_) λh2=>af ?_
  ·simp only [dT]at h2;rw [h,h2];rfl
  ·simp only [dF]at h2;rw [h,h2];rfl
 cases ha:(!(f.T==w.task)&&jh p f.T f.entry)with
 |false=>
  rw [ha]at jc jr;refine⟨false,bz acz ?_,bz adD (aj jr (bj aL))⟩;exact ahL
 |true=>
 rw [ha]at jc jr;obtain⟨ht,he⟩:=XM (bS _ _▸ha).2;generalize hx:C4 (ni p.tasks f.T).au f.entry=x;have Lf:=FQ ht;have DA:=Zu he;rw [hx]at DA;obtain⟨dX,anG,eZ,fP⟩:=ct.ent _ (Xh ht) _ (Xr he);rw [hx]at dX anG eZ fP;have t1:ib f.T (p.tasks.map cE).length =true:=by rw [eE];exact ht
 have t2:ib f.entry ((ni p.tasks f.T).au.map iM).length =true:=by rw [eE];exact he
 have aMD:bM L8 [K0 p lf,ah (bf ro),.ab 0 cn,J (cW f L D H A),dY x]
  (bif (f.Ins.length==x.ins.length)&&(f.fH.length==x.outs.length)then(0,[K0 p lf,ah (bf ro),.ab 0 cn,J (cW f L D H A),dY x])else(1,[aq,K0 p lf,ah (bf ro),.ab 0 cn,J (cW f L D H A),dY x])):=by
  refine bU arl ?_;rw [hc];refine av (c:=ln (f.Ins.map aU) != ln (ints x.ins)) (λh=>af ?_) λh=>av (c:=ln (f.fH.map cX) != ln (ints x.outs)) (λh2=>af ?_) λh2=>af ?_
  ·rw [Gn]at h;simp only [dT]at h;rw [h];rfl
  ·rw [Gn]at h;rw [Rc]at h2;simp only [dT,dF]at h h2;rw [h,h2];rfl
  ·rw [Gn]at h;rw [Rc]at h2;simp only [dF]at h h2;rw [h,h2];rfl
 have aMC:bM Mv [J (cW f L D H A),dY x]
  (bif (f.Ins.length==x.ins.length)&&(f.fH.length==x.outs.length)then(0,[J (cW f L D H A),dY x])else(1,[aq,J (cW f L D H A),dY x])):=by
  refine bU atW ?_;refine av (c:=ln (f.Ins.map aU) != ln (ints x.ins)) (λh=>af ?_) λh=>av (c:=ln (f.fH.map cX) != ln (ints x.outs)) (λh2=>af ?_) λh2=>af ?_
  ·rw [Gn]at h;simp only [dT]at h;rw [h];rfl
  ·rw [Gn]at h;rw [Rc]at h2;simp only [dT,dF]at h h2;rw [h,h2];rfl
  ·rw [Gn]at h;rw [Rc]at h2;simp only [dF]at h h2;rw [h,h2];rfl
 have C1:∀r:UO,_->Ev Ms [J (bC 0 w),J (cW f L D H A),K0 p lf,ah (bf ro),.ab 0 cn] r:=λr h=>by
  refine bz acz ?_;rw [hc];refine aj jc (aX (aH t1 (aH (c:=ib f.entry ((gR (gA (p.tasks.map cE) f.T.toNat) 1).length)) (by rw [Lf];exact t2) ?_)));erw [hc];have hj:bM L8 [K0 p lf,ah (bf ro),.ab 0 cn,J (cW f L D H A),J [aa (gR (gA (gR (gA (p.tasks.map cE) f.T.toNat) 1) f.entry.toNat) 0),aa (gR (gA (gR (gA (p.tasks.map cE) f.T.toNat) 1) f.entry.toNat) 1)]] (bif (f.Ins.length==x.ins.length)&&(f.fH.length==x.outs.length)then(0,[K0 p lf,ah (bf ro),.ab 0 cn,J (cW f L D H A),dY x])else(1,[aq,K0 p lf,ah (bf ro),.ab 0 cn,J (cW f L D H A),dY x])):=by
   rw [Lf,show gR (cE (ni p.tasks f.T)) 1=(ni p.tasks f.T).au.map iM from rfl,DA];exact aMD
  refine aj hj ?_;exact h
 have R1:∀r:UO,_->Ev M3 [bL p ro w,J (cW f L D H A)] r:=λr h=>by
  refine bz adD ?_;refine aj jr (aX (aH t1 (aH (c:=ib f.entry ((gR (gA (p.tasks.map cE) f.T.toNat) 1).length)) (by rw [Lf];exact t2) ?_)));have hj:bM Mv [J (cW f L D H A),J [aa (gR (gA (gR (gA (p.tasks.map cE) f.T.toNat) 1) f.entry.toNat) 0),aa (gR (gA (gR (gA (p.tasks.map cE) f.T.toNat) 1) f.entry.toNat) 1)]] (bif (f.Ins.length==x.ins.length)&&(f.fH.length==x.outs.length)then(0,[J (cW f L D H A),dY x])else(1,[aq,J (cW f L D H A),dY x])):=by
   rw [Lf,show gR (cE (ni p.tasks f.T)) 1=(ni p.tasks f.T).au.map iM from rfl,DA];exact aMC
  refine aj hj ?_;exact h
 cases hlen:((f.Ins.length==x.ins.length)&&(f.fH.length==x.outs.length))with
 |false=>
  rw [hlen]at C1 R1;refine⟨false,C1 _ (bj (af ?_)),R1 _ (bj aL)⟩;exact j5
 |true=>
 rw [hlen]at C1 R1;simp only [bS,ic]at hlen;obtain⟨Sb,hn2⟩:=hlen;obtain⟨b1,vQ⟩:=afC (m:=f.Ins.length) (P:=λi b=>∀(h:i<f.Ins.length) (h':i<x.ins.length),Ev zl [J (bC 0 w),J (aU f.Ins[i]),aa (ints [x.ins[i]]),J (dP 1 2 p lf),ah (bf ro),.ab 0 cn] (0,ak b::gk p ro lf cn)∧Ev Bh [bL p ro w,J (aU f.Ins[i]),iI x.ins[i]] (0,[ak b])) λi hi=>by
  have dV:i<x.ins.length:=by omega
  obtain⟨s,t,b,g1,g2,g3⟩:=FR ct hw hc (lf:=lf) hE f.Ins[i] (hf.Ins.2 _ (dO hi));have ho:=dX x.ins[i] (dO dV);refine⟨fitAll p s b [x.ins[i]],λ_ _=>⟨Rq ct hc g1 (λh=>(g3 h).l) (one_le _) (λy hy=>by simp at hy;subst hy;exact ho),E.to (Rp ct g2 (λh=>(g3 h).r) ho) ?_⟩⟩;unfold fitAll;cases b with
  |false=>rfl
  |true=>
   have DB:∀o,iL s o=iL t o:=λo=>(g3 rfl).rel.iL o;simp [DB]
 have k1:=uR (m:=f.Ins.length) (p:=λi=> !b1 i) (hit:=(0,aq::(gk p ro lf cn++[J (bC 0 w),dY x]))) (done:=(1,gk p ro lf cn++[J (bC 0 w),dY x])) (LF:=λi N m=>L1 (FU CX EE N) N m [aT (f.Ins.map aU),iI (ln (f.Ins.map aU)),iI (i:Int),K0 p lf,ah (bf ro),.ab 0 cn,J (bC 0 w),dY x])
  (bF abJ (aC dU (af (xM))))
  λi hi r q1 q2=>bF abJ<|bu (dr hi)<|aH (cH hi)<|aH (cH (f:=λn=>[iI n]) (l:=x.ins) (by omega))<|by
   have dV:i<x.ins.length:=by omega
   rw [hc,su hi,ix hi hf.Ins.1];have h1:=(vQ i hi hi dV).1;rw [show ints [x.ins[i]]=[[iI (gI (gA (gR [aa (ints x.ins),aa (ints x.outs)] 0) ((i:Int).toNat)) 0)]]by
    rw [show gA (gR [aa (ints x.ins),aa (ints x.outs)] 0) ((i:Int).toNat)=[iI x.ins[i]]from fM dV];rfl]at h1
   refine aj h1 ?_;exact P1
 have k1r:=uR (m:=f.Ins.length) (p:=λi=> !b1 i) (hit:=(0,[aq,bL p ro w,J (cW f L D H A),dY x])) (done:=(1,[bL p ro w,J (cW f L D H A),dY x])) (LF:=λi N m=>Mp (FU CX EE N) N m [iI (i:Int),bL p ro w,J (cW f L D H A),dY x])
  (bF ace (aC (dU (f:=aU) (l:=f.Ins)) aL))
  λi hi r q1 q2=>bF ace<|bu (dr (f:=aU) (l:=f.Ins) hi)<|aH (cH (f:=aU) (l:=f.Ins) hi)<|aH (cH (f:=λn=>[iI n]) (l:=x.ins) (by omega))<|by
   have dV:i<x.ins.length:=by omega
   rw [show gR (cW f L D H A) 13=f.Ins.map aU from rfl,su hi,ix hi hf.Ins.1];have h1:=(vQ i hi hi dV).2;rw [show(iI x.ins[i])=iI (gI (gA (gR [aa (ints x.ins),aa (ints x.outs)] 0) ((i:Int).toNat)) 0)by
    rw [show gA (gR [aa (ints x.ins),aa (ints x.outs)] 0) ((i:Int).toNat)=[iI x.ins[i]]from fM dV];rfl]at h1
   exact aj h1 (av (λpF=>af (q1 pF)) q2)
 obtain⟨b2,jq⟩:=afC (m:=f.fH.length) (P:=λi b=>∀(h:i<f.fH.length) (h':i<x.outs.length),
  (∀r,(b=false->(0,aq::(gk p ro lf cn++[J (bC 0 w),dY x]))=r)->(b=true->bP DZ [bH (f.fH.map cX),iI (ln (f.fH.map cX)),iI ((i+1:Nat):Int),K0 p lf,ah (bf ro),.ab 0 cn,J (bC 0 w),dY x] r)->
    bP DZ [bH (f.fH.map cX),iI (ln (f.fH.map cX)),iI (i:Int),K0 p lf,ah (bf ro),.ab 0 cn,J (bC 0 w),dY x] r)∧
  (∀r,(b=false->(0,[aq,bL p ro w,J (cW f L D H A),dY x])=r)->(b=true->bP D7 [iI ((i+1:Nat):Int),bL p ro w,J (cW f L D H A),dY x] r)->
    bP D7 [iI (i:Int),bL p ro w,J (cW f L D H A),dY x] r)) λi hi=>by
  have dV:i<x.outs.length:=by omega
  have ho:=anG x.outs[i] (dO dV);obtain⟨l,l',b,h1,h2,h3⟩:=plE ct hw hc (lf:=lf) hE (hf.fH.2 _ (dO hi));have Qf:Mw (gA (f.fH.map cX) ((i:Int).toNat))=cX f.fH[i]:=zO;cases b with
  |false=>
   refine⟨false,λ_ _=>⟨λr r1 _=>bF Tf (bu (dr hi) (aH (cH hi) ?_)),λr r1 _=>bF TW (bu (dr (f:=cX) (l:=f.fH) hi) (aH (cH (f:=cX) (l:=f.fH) hi) ?_))⟩⟩
   ·rw [hc,Qf];refine aj h1 ?_;erw [hc];exact aX (af (r1 rfl))
   ·rw [show gR (cW f L D H A) 15=f.fH.map cX from rfl,Qf];exact aj h2 (aX (af (r1 rfl)))
  |true=>
   have hp:=h3 rfl;have nM:∀y∈l',ib y p.bw.length=true:=λy hy=>hp.jj y ((hp.mem y).2 hy);have eL:=aD0 ct (w:=w) hc (lf:=lf) dV ho hp.len hp.jj;have ea:gI (gA (ints x.outs) ((i:Int).toNat)) 0=x.outs[i]:=by rw [fM dV];rfl
   have jJ:=oY (l:=l') (p:=λo=> !n7 (cM p.bw x.outs[i]) (cM p.bw o)) (hit:=(0,[aq,bL p ro w,dY x])) (done:=(1,[bL p ro w,dY x])) (LF:=λj N m=>L0 (FU CX EE N) N m [iI (i:Int),aa (ints l'),iI (j:Int),bL p ro w,dY x])
    (bF abI (aC dU aL))
    λj hj r q1 q2=>bF abI<|bu (dr hj)<|aH (cH (f:=λn=>[iI n]) (l:=x.outs) dV)<|aH (by show ib (gI (gA (ints x.outs) ((i:Int).toNat)) 0) (cf p.bw).length =true;rw [ea,pb];exact ho)<|aH (cH hj)<|by
     rw [fM hj,ix hj hp.anu];have hy:=nM l'[j] (dO hj);refine aH (by show ib l'[j] (cf p.bw).length =true;rw [pb];exact hy) ?_;have e1:gA (cf p.bw) (gI (gA (ints x.outs) ((i:Int).toNat)) 0).toNat =fU (cM p.bw x.outs[i]):=by rw [ea];exact lM ho
     erw [e1,lM hy];exact aj (aae (ct.ol.ok (qq ho)) (ct.ol.ok (qq hy))) (av (λpF=>af (q1 pF)) q2)
   rw [<-O9 hp.mem]at jJ;refine⟨!(l.any λo=> !n7 (cM p.bw x.outs[i]) (cM p.bw o)),λ_ _=>⟨λr r1 r2=>bF Tf (bu (dr hi) (aH (cH hi) ?_)),λr r1 r2=>bF TW (bu (dr (f:=cX) (l:=f.fH) hi) (aH (cH (f:=cX) (l:=f.fH) hi) ?_))⟩⟩
   ·rw [hc,Qf,ix hi hf.fH.1];refine aj h1 ?_;erw [hc];refine bj (aj eL ?_);erw [hc];exact av (c:=l.any λo=> !n7 (cM p.bw x.outs[i]) (cM p.bw o)) (λh=>af (r1 (fY))) λh=>r2 (fY)
   ·rw [show gR (cW f L D H A) 15=f.fH.map cX from rfl,Qf,ix hi hf.fH.1];refine aj h2 (bj (aj jJ.diag ?_));cases h:l.any λo=> !n7 (cM p.bw x.outs[i]) (cM p.bw o)with
    |true=>exact aX (af (r1 (fY)))
    |false=>exact bj (r2 (fY))
 have k2:=uR (m:=f.fH.length) (p:=λi=> !b2 i) (hit:=(0,aq::(gk p ro lf cn++[J (bC 0 w),dY x]))) (done:=(1,gk p ro lf cn++[J (bC 0 w),dY x])) (LF:=λi N m=>DZ (FU CX EE N) N m [bH (f.fH.map cX),iI (ln (f.fH.map cX)),iI (i:Int),K0 p lf,ah (bf ro),.ab 0 cn,J (bC 0 w),dY x])
  (bF Tf (aC dU (af (xM))))
  λi hi r q1 q2=>(jq i hi hi (by omega)).1 r (λh=>q1 (fY)) λh=>q2 (fY)
 have k2r:=uR (m:=f.fH.length) (p:=λi=> !b2 i) (hit:=(0,[aq,bL p ro w,J (cW f L D H A),dY x])) (done:=(1,[bL p ro w,J (cW f L D H A),dY x])) (LF:=λi N m=>D7 (FU CX EE N) N m [iI (i:Int),bL p ro w,J (cW f L D H A),dY x])
  (bF TW (aC (dU (f:=cX) (l:=f.fH)) aL))
  λi hi r q1 q2=>(jq i hi hi (by omega)).2 r (λh=>q1 (fY)) λh=>q2 (fY)
 generalize (List.range f.Ins.length).any (λi=> !b1 i)=a1 at k1 k1r;generalize (List.range f.fH.length).any (λi=> !b2 i)=a2 at k2 k2r;have aMB:bM TM [K0 p lf,ah (bf ro),.ab 0 cn,J (bC 0 w),J (cW f L D H A),dY x]
  (bif a1 then(1,[aq,K0 p lf,ah (bf ro),.ab 0 cn,J (bC 0 w),J (cW f L D H A),dY x])else(0,[K0 p lf,ah (bf ro),.ab 0 cn,J (bC 0 w),J (cW f L D H A),dY x])):=by
  refine bU ark ?_;rw [hc];refine aj k1.diag ?_;cases a1 with
  |true=>exact PH
  |false=>exact Ck
 have aMA:bM UH [bL p ro w,J (cW f L D H A),dY x]
  (bif a1 then(1,[aq,bL p ro w,J (cW f L D H A),dY x])else(0,[bL p ro w,J (cW f L D H A),dY x])):=by
  refine bU atV (aj k1r.diag ?_);cases a1 with
  |true=>exact mG
  |false=>exact fX
 refine⟨!a1&& !a2,C1 _ (aX ?_),R1 _ (aX (aj aMA ?_))⟩
 ·simp only [cg];erw [hc];refine aj aMB ?_;cases a1 with
  |true=>exact Ck
  |false=>
   refine aX ?_;simp only [cC];erw [hc];refine aj k2.diag ?_;cases a2 with
   |true=>exact PH
   |false=>exact Ck
 ·cases a1 with
  |true=>exact fX
  |false=>
   refine aX (aj k2r.diag ?_);cases a2 with
   |true=>exact mG
   |false=>exact fX
end
end Go.Proofs.YtomkobcipaligaaGreatDoor
