/-
  The fields of a statement's kind: the reference's side, and both together.
-/
import Derived.Test.YtffabbjfdgmbjaaGreatW3
import Derived.KernelRfl
set_option linter.all false
set_option linter.deprecated false
set_option maxHeartbeats 4000000
namespace Go.Proofs.B
open Go Go.ah Qm Wq
set_option maxRecDepth 100000
noncomputable section
variable {G:Nat->aq->Option UO} {N n:Nat} {i0 i1 i2 i3:Int} {l0 l1 l2 l3 l4 l5 l6 l7:aq} {r0 r1 r2 r3 r4 r5 r6 r7 r8:aE}
def aBR:bG CX EE G N Z8 [iI i0,aa l1,aa l2,aa l3,aa l4,ay r5,.aj 0 r6]=(dG (mq l3) l2 1 (dG (nq l2 1 (mq l3)) l4 0 (dG i0 l4 0 (bO (G NX [lG (dD l4 0 (nq l2 1 (mq l3))),lG (dD l4 0 i0)]) λ_ o1=>lj (cE o1) (bH l1 (.ptr 3 0 0)) (nX l2 1 []) (gX l3) [mV l4 4 (.mp 5),bB r5,bN r6]))):aA):=ac
def ahU:Ms G N (n+1) [aw r0,iI i1,iI i2,aa l3,aa l4,aa l5,aa l6,ay r7,.aj 0 r8]=(mB i2 i1 r0 (bO (G Z8 [eU (bp r0 i2),bH l3 (.ptr 3 0 0),nX l4 1 [],gX l5,mV l6 4 (.mp 5),bB r7,bN r8]) λ_ o1=>nj (dP o1) i2 (pR o1 (.ptr 3 0 0)) [nX (dN o1) 1 [],gX (lI o1),jZ o1 4 4 (.mp 5),iF o1 5,lL o1 6] (Ms G N n [ba r0,iI i1,bZ i2,pR o1 (.ptr 3 0 0),nX (dN o1) 1 [],gX (lI o1),jZ o1 4 4 (.mp 5),iF o1 5,lL o1 6])) (bH l3 (.ptr 3 0 0)) [nX l4 1 [],gX l5,mV l6 4 (.mp 5),bB r7,bN r8]:aA):=ac
def ah5:bG CX EE G N YL [aw r0,aa l1,aa l2,aa l3,aa l4,ay r5,.aj 0 r6]=(bO (Ms G N N (ba r0::pS r0::dS (bH l1 (.ptr 3 0 0)) (nX l2 1 []) [gX l3,mV l4 4 (.mp 5),bB r5,bN r6])) λq2 o2=>fS q2 (fR (eU o2) (pR o2 (.ptr 3 0 0)) (nX (dN o2) 1 []) (gX (lI o2)) [jZ o2 4 4 (.mp 5),iF o2 5,lL o2 6]) (iI (-1)) [bH (bP o2) (.ptr 3 0 0),nX (bu o2) 1 [],gX (dN o2),jZ o2 3 4 (.mp 5),iF o2 4,lL o2 5]:aA):=ac
def aw1:bG CX EE G N YH [aw r0,aa l1,aa l2,aa l3,aa l4,ay r5,.aj 0 r6]=(bO (G YL [ba r0,bH l1 (.ptr 3 0 0),nX l2 1 [],gX l3,mV l4 4 (.mp 5),bB r5,bN r6]) λ_ o1=>lj (vd o1) (pR o1 (.ptr 3 0 0)) (nX (dN o1) 1 []) (gX (lI o1)) [jZ o1 4 4 (.mp 5),iF o1 5,lL o1 6]:aA):=ac
def aBI:aae G N [aa l0,ay r1,.aj 0 r2,aa l3,aa l4]=(lr ((gI l4 3)==(gI l3 1)) [cy l0 (.mp 2),bB r1,bN r2,bH l3 (.ptr 0 0 0),aC l4] (bO (G Jn [bH l3 (.ptr 0 0 0),cL l4 3,cL l4 5,cy l0 (.mp 2),bB r1,bN r2]) λ_ o1=>eL (cE o1) (lT (cx o1 (.mp 2)) (bU o1) (cb o1) l3 (.ptr 0 0 0) [aC l4]) (cx o1 (.mp 2)) (bU o1) (cb o1) [bH l3 (.ptr 0 0 0),aC l4]):aA):=ac
def aAZ:Sa G N [aa l0,ay r1,.aj 0 r2,aa l3,aa l4]=(ca ((ln (gR l3 13)) != (ln (gR l4 0))) (jw (cy l0 (.mp 2)) (bB r1) (bN r2) (aC l3) [nX l4 1 []]) ((ln (gR l3 15)) != (ln (gR l4 1))) (jw (cy l0 (.mp 2)) (bB r1) (bN r2) (aC l3) [nX l4 1 []]) (fR (cy l0 (.mp 2)) (bB r1) (bN r2) (aC l3) [nX l4 1 []]):aA):=ac
def ai3:R5 G N (n+1) [bR r0,iI i1,iI i2,aa l3,ay r4,.aj 0 r5,aa l6,aa l7]=(mB i2 i1 r0 (dG i2 l7 0 (bO (G Ea [bH l6 (.ptr 0 0 0),bK (bp r0 i2),ba ([[eU (dD l7 0 i2)]]:aE),cy l3 (.mp 2),bB r4,bN r5]) λ_ o4=>jS (cE o4) (cx o4 (.mp 2)) [bU o4,cb o4,bH l6 (.ptr 0 0 0),nX l7 1 []] (R5 G N n [bQ r0,iI i1,bZ i2,cx o4 (.mp 2),bU o4,cb o4,bH l6 (.ptr 0 0 0),nX l7 1 []]))) (cy l3 (.mp 2)) [bB r4,bN r5,bH l6 (.ptr 0 0 0),nX l7 1 []]:aA):=ac
def aAY:Z0 G N [aa l0,ay r1,.aj 0 r2,aa l3,aa l4,aa l5]=(bO (R5 G N N (pa l4 13::jx l4 13::dS (cy l0 (.mp 2)) (bB r1) [bN r2,bH l3 (.ptr 0 0 0),nX l5 1 []])) λq5 o5=>fS q5 (rJ o5 [cx o5 (.mp 2),bU o5,cb o5,bH (fZ o5) (.ptr 0 0 0),aC l4,nX (gC o5 5) 1 []]) (kf o5 0 (.mp 2)) [iF o5 1,lL o5 2,sv o5 (.ptr 0 0 0),aC l4,nX (fZ o5) 1 []]:aA):=ac
def Zw:Jg G N (n+1) [c7 r0,iI i1,iI i2,aa l3,ay r4,.aj 0 r5,aa l6,aa l7]=(mB i2 i1 r0 (bO (G D8 [bH l6 (.ptr 0 0 0),fg (bp r0 i2),cy l3 (.mp 2),bB r4,bN r5]) λ_ o7=>jS (nJ o7 1) (kf o7 2 (.mp 2)) [jM o7,kY o7,bH l6 (.ptr 0 0 0),nX l7 1 []] (bO (G YH [iD o7,bH l6 (.ptr 3 0 0),nX l7 1 [],di (iI i2),jZ o7 2 4 (.mp 5),jM o7,kY o7]) λ_ o8=>jS (dP o8) (kf o8 4 (.mp 2)) [iF o8 5,lL o8 6,pR o8 (.ptr 0 0 0),nX (dN o8) 1 []] (Jg G N n [cT r0,iI i1,bZ i2,kf o8 4 (.mp 2),iF o8 5,lL o8 6,pR o8 (.ptr 0 0 0),nX (dN o8) 1 []]))) (cy l3 (.mp 2)) [bB r4,bN r5,bH l6 (.ptr 0 0 0),nX l7 1 []]:aA):=ac
def ajI:bG CX EE G N Sm [aa l0,aa l1,aa l2,ay r3,.aj 0 r4]=(bO (aae G N [cy l2 (.mp 2),bB r3,bN r4,bH l0 (.ptr 0 0 0),aC l1]) λq2 o2=>iL q2 (dG (gI (fZ o2) 3) (bP o2) 4 (dG (gI (fZ o2) 5) (jO (bP o2) 4 (fZ o2) 3) 1 (bO (Sa G N [kf o2 0 (.mp 2),iF o2 1,lL o2 2,aC (fZ o2),nX (jO (jO (bP o2) 4 (fZ o2) 3) 1 (fZ o2) 5) 1 []]) λq3 o3=>iL q3 (bO (Z0 G N [kf o3 0 (.mp 2),iF o3 1,lL o3 2,sv o2 (.ptr 0 0 0),aC (lI o3),nX (fZ o3) 1 []]) λq6 o6=>iL q6 (bO (Jg G N N ((eW xw (fZ o6) 15)::(jx (fZ o6) 15)::dS (kf o6 0 (.mp 2)) (iF o6 1) [lL o6 2,sv o6 (.ptr 0 0 0),nX (gC o6 5) 1 []])) λq9 o9=>fS q9 (oz o9 (cx o9 (.mp 2)) (bU o9) (cb o9) []) eD [kf o9 0 (.mp 2),iF o9 1,lL o9 2]) o6 [cx o6 (.mp 2),bU o6,cb o6]) o3 [cx o3 (.mp 2),bU o3,cb o3]))) o2 [cx o2 (.mp 2),bU o2,cb o2]:aA):=ac
def aEt:bG CX EE G N Ss [aa l0,iI i1,aa l2,ay r3,.aj 0 r4]=(bO (G Jn [bH l0 (.ptr 0 0 0),mC l0,iI i1,cy l2 (.mp 2),bB r3,bN r4]) λ_ o1=>hZ (dP o1) (bO (G wH [cM l0 4,iI i1]) λ_ o2=>lj (cE o2) (cx o1 (.mp 2)) (bU o1) (cb o1) []) (cx o1 (.mp 2)) (bU o1) [cb o1]:aA):=ac
def aA7:bG CX EE G N ZV [iI i0,iI i1,aa l2,aa l3,ay r4,.aj 0 r5]=(dG i0 l3 0 (dG i1 l3 0 (bO (G NX [lG (dD l3 0 i0),lG (dD l3 0 i1)]) λ_ o1=>hZ (dP o1) (dG i1 l3 0 (dG i0 l3 0 (bO (G NX [lG (dD l3 0 i1),lG (dD l3 0 i0)]) λ_ o2=>oz o2 (bH l2 (.ptr 1 0 0)) (mV l3 2 (.mp 3)) (bB r4) [bN r5]))) (bH l2 (.ptr 1 0 0)) (mV l3 2 (.mp 3)) [bB r4,bN r5])):aA):=ac
def ahR:Rp G N (n+1) [aw r0,aw r1,iI i2,iI i3,aa l4,aa l5,ay r6,.aj 0 r7]=(mB i3 i2 r1 (eh i3 r0 (bO (G ZV [eU (bp r1 i3),eU (bp r0 i3),bH l4 (.ptr 1 0 0),mV l5 2 (.mp 3),bB r6,bN r7]) λ_ o1=>jS (cE o1) (pR o1 (.ptr 1 0 0)) [jZ o1 2 2 (.mp 3),jM o1,kY o1] (Rp G N n [ba r0,ba r1,iI i2,bZ i3,pR o1 (.ptr 1 0 0),jZ o1 2 2 (.mp 3),jM o1,kY o1]))) (bH l4 (.ptr 1 0 0)) [mV l5 2 (.mp 3),bB r6,bN r7]:aA):=ac
def axf:bG CX EE G N Ru [aw r0,aw r1,aa l2,aa l3,ay r4,.aj 0 r5]=(jS ((ln r0) != (ln r1)) (bH l2 (.ptr 1 0 0)) [mV l3 2 (.mp 3),bB r4,bN r5] (bO (Rp G N N (ba r1::ba r0::pS r0::dS (bH l2 (.ptr 1 0 0)) (mV l3 2 (.mp 3)) [bB r4,bN r5])) λq2 o2=>fS q2 (oz o2 (pR o2 (.ptr 1 0 0)) (jZ o2 2 2 (.mp 3)) (jM o2) [kY o2]) eD [bH (bP o2) (.ptr 1 0 0),jZ o2 1 2 (.mp 3),bU o2,cb o2]):aA):=ac
def aAX:ZZ G N [aa l0,ay r1,.aj 0 r2,aa l3,aa l4]=(kg (gI l3 10) 0 (lT (cy l0 (.mp 2)) (bB r1) (bN r2) l3 (.ptr 0 0 0) [aC l4]) (bO (G Jn [bH l3 (.ptr 0 0 0),cL l4 3,cL l4 5,cy l0 (.mp 2),bB r1,bN r2]) λ_ o1=>ca (cE o1) (lT (cx o1 (.mp 2)) (bU o1) (cb o1) l3 (.ptr 0 0 0) [aC l4]) ((gI l4 3)==(gI l3 1)) (eL ((gI l4 5)==(gI l3 10)) (lT (cx o1 (.mp 2)) (bU o1) (cb o1) l3 (.ptr 0 0 0) [aC l4]) (cx o1 (.mp 2)) (bU o1) (cb o1) [bH l3 (.ptr 0 0 0),aC l4]) (fR (cx o1 (.mp 2)) (bU o1) (cb o1) (bH l3 (.ptr 0 0 0)) [aC l4])):aA):=ac
def ajy:bG CX EE G N aal [aa l0,aa l1,aa l2,ay r3,.aj 0 r4]=(bO (ZZ G N [cy l2 (.mp 2),bB r3,bN r4,bH l0 (.ptr 0 0 0),aC l1]) λq2 o2=>iL q2 (dG (jF (lI o2)) (bP o2) 4 (dG (gI (lI o2) 10) (jO (bP o2) 4 (lI o2) 1) 1 (dG (gI (fZ o2) 3) (bP o2) 4 (dG (gI (fZ o2) 5) (jO (bP o2) 4 (fZ o2) 3) 1 (lq ((aU ((ln (gR (jO (jO (bP o2) 4 (fZ o2) 3) 1 (fZ o2) 5) 0))+(ln (gR (jO (jO (bP o2) 4 (fZ o2) 3) 1 (fZ o2) 5) 1))))==0) eD (kf o2 0 (.mp 2)) [iF o2 1,lL o2 2] (bO (G Ru [iD (jO (jO (bP o2) 4 (lI o2) 1) 1 (lI o2) 10),iD (jO (jO (bP o2) 4 (fZ o2) 3) 1 (fZ o2) 5),sv o2 (.ptr 1 0 0),jZ o2 0 2 (.mp 3),iF o2 1,lL o2 2]) λ_ o3=>hZ (dP o3) (bO (G Ru [cM (jO (jO (bP o2) 4 (lI o2) 1) 1 (lI o2) 10) 1,cM (jO (jO (bP o2) 4 (fZ o2) 3) 1 (fZ o2) 5) 1,pR o3 (.ptr 1 0 0),jZ o3 2 2 (.mp 3),jM o3,kY o3]) λ_ o4=>oz o4 (kf o4 2 (.mp 2)) (jM o4) (kY o4) []) (kf o3 2 (.mp 2)) (jM o3) [kY o3])))))) o2 [cx o2 (.mp 2),bU o2,cb o2]:aA):=ac
def ayU:Zl G N [aa l0,ay r1,.aj 0 r2,aa l3,aa l4]=(bO (G Gk ((oB (lK l0 0) l0 [])::cL l4 2::nv [])) λ_ o5=>lr (cE o5) [cy l0 (.mp 2),bB r1,bN r2,bH l3 (.ptr 0 0 0),aC l4] (dG (gI l4 2) l0 0 (lr (gB (jO l0 0 l4 2) 3) [cy l0 (.mp 2),bB r1,bN r2,bH l3 (.ptr 0 0 0),aC l4] (dG (gI l4 2) l0 0 (lr ((gI (jO l0 0 l4 2) 0) != 1) [cy l0 (.mp 2),bB r1,bN r2,bH l3 (.ptr 0 0 0),aC l4] (bO (G Gn [bH l3 (.ptr 0 0 0),cL l4 2,cy l0 (.mp 2),bB r1,bN r2]) λ_ o6=>lr (cE o6) [cx o6 (.mp 2),bU o6,cb o6,bH l3 (.ptr 0 0 0),aC l4] (bO (G wH [cM l3 6,cL l4 2]) λ_ o7=>eL (dP o7) (lT (cx o6 (.mp 2)) (bU o6) (cb o6) l3 (.ptr 0 0 0) [aC l4]) (cx o6 (.mp 2)) (bU o6) (cb o6) [bH l3 (.ptr 0 0 0),aC l4])))))):aA):=ac
def ayz:Zd G N [cu i0,aa l1,ay r2,.aj 0 r3]=(eL (i0==11) (fR eD (cy l1 (.mp 2)) (bB r2) (bN r3) []) (av (i0==15)) (cy l1 (.mp 2)) (bB r2) [bN r3]:aA):=ac
def ayi:Y7 G N [cu i0,aa l1,ay r2,.aj 0 r3]=(eL (i0==12) (fR eD (cy l1 (.mp 2)) (bB r2) (bN r3) []) (av (i0==13)) (cy l1 (.mp 2)) (bB r2) [bN r3]:aA):=ac
end
noncomputable section
variable {G:Nat->aq->Option UO} {N n:Nat} {i0 i1 i2:Int} {l0 l1 l2 l3 l4 l5 l6 l7:aq} {r0 r1 r2 r3 r4 r5 r6 r8:aE}
def aCt:bG CX EE G N MW [aa l0,aa l1,aa l2,ay r3,.aj 0 r4]=(ca ((gI l1 0)==2) (gT l1 14 (bO (G D8 [bH l0 (.ptr 0 0 0),fg (jk l1 14 0),cy l2 (.mp 2),bB r3,bN r4]) λ_ o1=>hZ (gB o1 1) (gT l1 12 (bO (G Ea [bH l0 (.ptr 0 0 0),nZ l1 12 0,iD o1,kf o1 2 (.mp 2),jM o1,kY o1]) λ_ o2=>oz o2 (cx o2 (.mp 2)) (bU o2) (cb o2) [])) (kf o1 2 (.mp 2)) (jM o1) [kY o1])) ((gI l1 0)==4) (gT l1 12 (bO (G MJ [bH l0 (.ptr 0 0 0),nZ l1 12 0,cy l2 (.mp 2),bB r3,bN r4]) λ_ o3=>oz o3 (cx o3 (.mp 2)) (bU o3) (cb o3) [])) (bif (gI l1 0)==5 then gT l1 12 (bO (G MJ [bH l0 (.ptr 0 0 0),nZ l1 12 0,cy l2 (.mp 2),bB r3,bN r4]) λ_ o4=>oz o4 (cx o4 (.mp 2)) (bU o4) (cb o4) [])else ca ((gI l1 0)==6) (bO (Zl G N [cy l2 (.mp 2),bB r3,bN r4,bH l0 (.ptr 0 0 0),aC l1]) λq8 o8=>iL q8 (gT (fZ o8) 12 (bO (G AZ [sv o8 (.ptr 0 0 0),nZ (fZ o8) 12 0,kf o8 0 (.mp 2),iF o8 1,lL o8 2]) λ_ o9=>hZ (dP o9) (v8 1 (fZ o8) 12 (bO (G AZ [sv o8 (.ptr 0 0 0),nZ (fZ o8) 12 1,cx o9 (.mp 2),bU o9,cb o9]) λ_ cO=>hZ (dP cO) (gT (fZ o8) 12 (bO (G Ea [sv o8 (.ptr 0 0 0),nZ (fZ o8) 12 0,ba ([[cL (fZ o8) 2]]:aE),cx cO (.mp 2),bU cO,cb cO]) λ_ dQ=>hZ (dP dQ) (v8 1 (fZ o8) 12 (bO (G Ea [sv o8 (.ptr 0 0 0),nZ (fZ o8) 12 1,ba ([[cL (fZ o8) 2]]:aE),cx dQ (.mp 2),bU dQ,cb dQ]) λ_ cq=>oz cq (cx cq (.mp 2)) (bU cq) (cb cq) [])) (cx dQ (.mp 2)) (bU dQ) [cb dQ])) (cx cO (.mp 2)) (bU cO) [cb cO])) (cx o9 (.mp 2)) (bU o9) [cb o9])) o8 [cx o8 (.mp 2),bU o8,cb o8]) ((gI l1 0)==7) (hZ (jP 1 l1 1) (hZ (dJ (jF l1) 8192) (bO (G wH [cM l0 3,mC l1]) λ_ fr=>lj (cE fr) (cy l2 (.mp 2)) (bB r3) (bN r4) []) (cy l2 (.mp 2)) (bB r3) [bN r4]) (cy l2 (.mp 2)) (bB r3) [bN r4]) (ca ((gI l1 0)==8) (bO (G wH [cM l0 2,mC l1]) λ_ dr=>oz dr (cy l2 (.mp 2)) (bB r3) (bN r4) []) ((gI l1 0)==10) (ca ((gI l1 1)==0) (ca (gB l0 9) (fR eD (cy l2 (.mp 2)) (bB r3) (bN r4) []) (jP 1 l1 1) (lj (jP (jF l1) l2 3) (cy l2 (.mp 2)) (bB r3) (bN r4) []) (fR dp (cy l2 (.mp 2)) (bB r3) (bN r4) [])) (jP 1 l1 1) (lj (jP (jF l1) l2 3) (cy l2 (.mp 2)) (bB r3) (bN r4) []) (fR dp (cy l2 (.mp 2)) (bB r3) (bN r4) [])) (bO (Zd G N [jW l1,cy l2 (.mp 2),bB r3,bN r4]) λ_ dI=>sW dI 0 (gT l1 12 (bO (G AZ [bH l0 (.ptr 0 0 0),nZ l1 12 0,cx dI (.mp 2),bU dI,cb dI]) λ_ jU=>oz jU (cx jU (.mp 2)) (bU jU) (cb jU) [])) (bO (Y7 G N [jW l1,cx dI (.mp 2),bU dI,cb dI]) λ_ dO=>ca (dP dO) (gT l1 14 (bO (G MN [bH l0 (.ptr 0 0 0),fg (jk l1 14 0),cx dO (.mp 2),bU dO,cb dO]) λ_ jI=>oz jI (cx jI (.mp 2)) (bU jI) (cb jI) [])) ((gI l1 0)==14) (sW l1 6 (gT l1 14 (bO (G MN [bH l0 (.ptr 0 0 0),fg (jk l1 14 0),cx dO (.mp 2),bU dO,cb dO]) λ_ ma=>hZ (dP ma) (bO (G wH [cM l0 5,cL l1 4]) λ_ zG=>hZ (dP zG) (bO (G Sl [bH l0 (.ptr 0 0 0),cL l1 4,cL l1 5,cx ma (.mp 2),bU ma,cb ma]) λ_ mJ=>oz mJ (cx mJ (.mp 2)) (bU mJ) (cb mJ) []) (cx ma (.mp 2)) (bU ma) [cb ma]) (cx ma (.mp 2)) (bU ma) [cb ma])) (gT l1 14 (bO (G MN [bH l0 (.ptr 0 0 0),fg (jk l1 14 0),cx dO (.mp 2),bU dO,cb dO]) λ_ DD=>hZ (dP DD) (bO (G Jn [bH l0 (.ptr 0 0 0),mC l0,cL l1 5,cx DD (.mp 2),bU DD,cb DD]) λ_ LI=>oz LI (cx LI (.mp 2)) (bU LI) (cb LI) []) (cx DD (.mp 2)) (bU DD) [cb DD]))) (ca ((gI l1 0)==16) (bO (G Gj [bH l0 (.ptr 0 0 0),aC l1,cx dO (.mp 2),bU dO,cb dO]) λ_ mY=>hZ (dP mY) (bO (G Sm [bH l0 (.ptr 0 0 0),aC l1,cx mY (.mp 2),bU mY,cb mY]) λ_ LH=>oz LH (cx LH (.mp 2)) (bU LH) (cb LH) []) (cx mY (.mp 2)) (bU mY) [cb mY]) ((gI l1 0)==17) (bO (G Gj [bH l0 (.ptr 0 0 0),aC l1,cx dO (.mp 2),bU dO,cb dO]) λ_ DC=>hZ (dP DC) (bO (G Sl [bH l0 (.ptr 0 0 0),cL l1 4,cL l1 5,cx DC (.mp 2),bU DC,cb DC]) λ_ LG=>oz LG (cx LG (.mp 2)) (bU LG) (cb LG) []) (cx DC (.mp 2)) (bU DC) [cb DC]) (ca ((gI l1 0)==18) (bO (G Ss [bH l0 (.ptr 0 0 0),cL l1 5,cx dO (.mp 2),bU dO,cb dO]) λ_ XM=>oz XM (cx XM (.mp 2)) (bU XM) (cb XM) []) ((gI l1 0)==20) (hZ (jP 0 l1 4) (hZ (ig (gI l1 4) (bu dO) 5) (bO (G wH [cM l0 5,cL l1 4]) λ_ o29=>hZ (cE o29) (lq ((ln (gR l0 5))==0) eD (cx dO (.mp 2)) [bU dO,cb dO] (dG (gI l1 4) (bu dO) 5 (lj ((ln (gR (jO (bu dO) 5 l1 4) 2))==0) (cx dO (.mp 2)) (bU dO) (cb dO) []))) (cx dO (.mp 2)) (bU dO) [cb dO]) (cx dO (.mp 2)) (bU dO) [cb dO]) (cx dO (.mp 2)) (bU dO) [cb dO]) (ca ((gI l1 0)==21) (bO (G aal [bH l0 (.ptr 0 0 0),aC l1,cx dO (.mp 2),bU dO,cb dO]) λ_ XL=>oz XL (cx XL (.mp 2)) (bU XL) (cb XL) []) ((gI l1 0)==22) (hZ (dJ 1 (ja l1 16)) (hZ (dJ (ja l1 16) 32) (bO (G Ny [cM l1 16,iI 1,iE ((ln (gR (bu dO) 4))- 1)]) λ_ o31=>oz o31 (cx dO (.mp 2)) (bU dO) (cb dO) []) (cx dO (.mp 2)) (bU dO) [cb dO]) (cx dO (.mp 2)) (bU dO) [cb dO]) (fR eD (cx dO (.mp 2)) (bU dO) (cb dO) [])))))))):aA):=ac
def aCv:bG CX EE G N Jm [aa l0,aa l1,ay r2,.aj 0 r3]=(fR (w7 l0 (.ptr 0 0 0) [(2,eM),(9,dp),(10,iI (-1))]) (cy l1 (.mp 2)) (bB r2) (bN r3) []:aA):=ac
def aA0:Z1 G N [aa l0,ay r1,.aj 0 r2,aa l3,aa l4]=(ca (ig 256 l4 18) (lT (cy l0 (.mp 2)) (bB r1) (bN r2) l3 (.ptr 0 0 0) [aC l4]) (ig 16 l4 19) (lT (cy l0 (.mp 2)) (bB r1) (bN r2) l3 (.ptr 0 0 0) [aC l4]) (bO (G Ny [cM l4 16,iE ((gI l3 1)+1),iE ((ln (gR l0 4))- 1)]) λ_ o1=>eL (cE o1) (lT (cy l0 (.mp 2)) (bB r1) (bN r2) l3 (.ptr 0 0 0) [aC l4]) (cy l0 (.mp 2)) (bB r1) (bN r2) [bH l3 (.ptr 0 0 0),aC l4]):aA):=ac
def ai4:Jh G N (n+1) [aw r0,iI i1,iI i2,aa l3,ay r4,.aj 0 r5,aa l6]=(bif cH i2 i1 then eh i2 r0<|match ah.ew (aJ r5) (iI (gI (bp r0 i2) 0))with|some m3=>(Jh G N n [aw r0,iI i1,bZ i2,aa (sT (aF eC 0 l3) eY),ay r4,.aj 0 (bz (ah.lY (aJ r5) (iI (gI (bp r0 i2) 0)) (iI (aU (m3.toI+1))))),aa (sT (aF mO 0 l6) pX)])|none=>(Jh G N n [aw r0,iI i1,bZ i2,aa (sT (aF eC 0 l3) eY),ay r4,.aj 0 (bz (ah.lY (aJ r5) (iI (gI (bp r0 i2) 0)) (iI 1))),aa (sT (aF mO 0 l6) pX)])else bL [aa (sT (aF eC 0 l3) eY),ay r4,.aj 0 (bz (aJ r5)),aa (sT (aF mO 0 l6) pX)]:aA):=ac
def aAq:ZO G N [aa l0,ay r1,.aj 0 r2,aa l3,aa l4]=(bO (Jh G N N (cM l4 16::jx l4 16::dS (cy l0 (.mp 2)) (bB r1) [bN r2,bH l3 (.ptr 0 0 0)])) λ_ o4=>fR (kf o4 0 (.mp 2)) (iF o4 1) (lL o4 2) (sv o4 (.ptr 0 0 0)) [aC l4]:aA):=ac
def RJ:MK G N (n+1) [fO r0,iI i1,iI i2,aa l3,ay r4,.aj 0 r5,aa l6,aa l7]=(mB i2 i1 r0 (bO (G nS [bH l6 (.ptr 0 0 0),aC (bp r0 i2),cy l3 (.mp 2),bB r4,bN r5]) λ_ o8=>jS (cE o8) (cx o8 (.mp 2)) [bU o8,cb o8,bH l6 (.ptr 0 0 0),bH l7 (.ptr 0 0 0)] (bO (G nS [bH l7 (.ptr 0 0 0),pQ 21 (bp r0 i2),cx o8 (.mp 2),bU o8,cb o8]) λ_ o9=>jS (cE o9) (cx o9 (.mp 2)) [bU o9,cb o9,bH l6 (.ptr 0 0 0),bH l7 (.ptr 0 0 0)] (MK G N n [gj r0,iI i1,bZ i2,cx o9 (.mp 2),bU o9,cb o9,bH l6 (.ptr 0 0 0),bH l7 (.ptr 0 0 0)]))) (cy l3 (.mp 2)) [bB r4,bN r5,bH l6 (.ptr 0 0 0),bH l7 (.ptr 0 0 0)]:aA):=ac
def azJ:ZB G N [aa l0,ay r1,.aj 0 r2,aa l3,aa l4,aa l5]=(bO (MK G N N (eW Cf l3 18::jx l3 18::dS (cy l0 (.mp 2)) (bB r1) [bN r2,bH l4 (.ptr 0 0 0),bH l5 (.ptr 0 0 0)])) λuK cO=>fS uK (rJ cO [cx cO (.mp 2),bU cO,cb cO,aC l3,bH (fZ cO) (.ptr 0 0 0),bH (gC cO 5) (.ptr 0 0 0)]) (kf cO 0 (.mp 2)) [iF cO 1,lL cO 2,aC l3,sv cO (.ptr 0 0 0),bH (fZ cO) (.ptr 0 0 0)]:aA):=ac
def ayk:Y8 G N [iI i0,aa l1,ay r2,.aj 0 r3,aa l4,aa l5,aa l6]=(bif (ln (gR l6 0))==0 then kg i0 (aU ((ln (gR l5 19))- 1)) (lT (cy l1 (.mp 2)) (bB r2) (bN r3) l4 (.ptr 0 0 0) [aC l5,sO l6]) (bO (G JK [iD l6,iI 1,cL l1 3]) λ_ fr=>eL (cE fr) (lT (cy l1 (.mp 2)) (bB r2) (bN r3) l4 (.ptr 0 0 0) [aC l5,sO l6]) (cy l1 (.mp 2)) (bB r2) (bN r3) [bH l4 (.ptr 0 0 0),aC l5,sO l6])else bO (G JK [iD l6,iI 1,cL l1 3]) λ_ dr=>eL (cE dr) (lT (cy l1 (.mp 2)) (bB r2) (bN r3) l4 (.ptr 0 0 0) [aC l5,sO l6]) (cy l1 (.mp 2)) (bB r2) (bN r3) [bH l4 (.ptr 0 0 0),aC l5,sO l6]:aA):=ac
def YY:I5 G N (n+1) [aw r0,iI i1,iI i2,aa l3,ay r4,.aj 0 r5,.aj 0 r6]=(bif cH i2 i1 then eh i2 r0<|match ah.ew (aJ r6) (iI (gI (bp r0 i2) 0))with|some m16=>(bif m16.toB then bL [aT,aa (sT (aF eC 0 l3) eY),ay r4,.aj 0 (bz (aJ r5)),.aj 0 (bz (aJ r6))]else I5 G N n [aw r0,iI i1,bZ i2,aa (sT (aF eC 0 l3) eY),ay r4,.aj 0 (bz (aJ r5)),.aj 0 (bz (ah.lY (aJ r6) (iI (gI (bp r0 i2) 0)) (c5)))])|none=>(I5 G N n [aw r0,iI i1,bZ i2,aa (sT (aF eC 0 l3) eY),ay r4,.aj 0 (bz (aJ r5)),.aj 0 (bz (ah.lY (aJ r6) (iI (gI (bp r0 i2) 0)) (c5)))])else oo [aa (sT (aF eC 0 l3) eY),ay r4,.aj 0 (bz (aJ r5)),.aj 0 (bz (aJ r6))]:aA):=ac
def aiH:I9 G N (n+1) [fV r0,iI i1,iI i2,aa l3,ay r4,.aj 0 r5,aa l6,aa l7,.aj 0 r8]=(mB i2 i1 r0 (bO (Y8 G N [iI i2,cy l3 (.mp 2),bB r4,bN r5,bH l6 (.ptr 0 0 0),aC l7,sO (bp r0 i2)]) λyt dI=>iL yt (bO (I5 G N N ((iD (gC dI 5))::(jx (gC dI 5) 0)::dS (kf dI 0 (.mp 2)) (iF dI 1) [lL dI 2,bN r8])) λAu dO=>lq (gJ Au) (eK dO) (cx dO (.mp 2)) [bU dO,cb dO,sv dI (.ptr 0 0 0),aC (fZ dI),kY dO] (bO (G nS [sv dI (.ptr 0 0 0),pQ 1 (gC dI 5),kf dO 0 (.mp 2),iF dO 1,lL dO 2]) λ_ jI=>jS (cE jI) (cx jI (.mp 2)) [bU jI,cb jI,sv dI (.ptr 0 0 0),aC (fZ dI),cb dO] (I9 G N n [gG r0,iI i1,bZ i2,cx jI (.mp 2),bU jI,cb jI,sv dI (.ptr 0 0 0),aC (fZ dI),cb dO]))) dI [cx dI (.mp 2),bU dI,cb dI,bH (fZ dI) (.ptr 0 0 0),aC (gC dI 5),bN r8]) (cy l3 (.mp 2)) [bB r4,bN r5,bH l6 (.ptr 0 0 0),aC l7,bN r8]:aA):=ac
def aCy:bG CX EE G N MX [aa l0,aa l1,aa l2,ay r3,.aj 0 r4]=(bO (Z1 G N [aa (sT (aF eC 0 l2) eY),ay r3,.aj 0 (bz (aJ r4)),aa (sT (aF mO 0 l0) pX),aC l1]) λq2 o2=>bif gJ q2 then bO (ZO G N [aa (sT (aF eC 0 (gC o2 0)) eY),ay (gR o2 1),.aj 0 (bz (aJ (gR o2 2))),aa (sT (aF mO 0 (gC o2 3)) pX),aC (gC o2 4)]) λ_ o5=>bO (G Jm [aa (sT (aF mO 0 (gC o5 3)) pX),aa (sT (aF eC 0 (gC o5 0)) eY),ay (gR o5 1),.aj 0 (bz (aJ (gR o5 2)))]) λ_ o6=>bO (G Jm [aa (sT (aF mO 0 (gC o5 3)) pX),aa (sT (aF eC 0 (gC o6 1)) eY),ay (gR o6 2),.aj 0 (bz (aJ (gR o6 3)))]) λ_ o7=>bO (ZB G N [aa (sT (aF eC 0 (gC o7 1)) eY),ay (gR o7 2),.aj 0 (bz (aJ (gR o7 3))),aC (gC o5 4),aa (sT (aF mO 0 (gC o6 0)) [(0,.ptr 0 0 0),(7,c5)]),aa (sT (aF mO 0 (gC o7 0)) [(0,.ptr 0 0 0),(8,c5)])]) λyu dQ=>bif gJ yu then a8 (cH 0 (ln (gR (gC dQ 3) 17)))<|bO (G nS [aa (sT (aF mO 0 (gC o5 3)) [(0,.ptr 0 0 0),(10,iI (-1))]),aC (gA (gR (gC dQ 3) 17) 0),aa (sT (aF eC 0 (gC dQ 0)) eY),ay (gR dQ 1),.aj 0 (bz (aJ (gR dQ 2)))]) λ_ cq=>bif !(gB cq 0)then bL [aT,aa (sT (aF eC 0 (gC cq 1)) eY),ay (gR cq 2),.aj 0 (bz (aJ (gR cq 3)))]else bO (I9 G N N [fV (gR (gC dQ 3) 19),iI (ln (gR (gC dQ 3) 19)),iI 0,aa (sT (aF eC 0 (gC cq 1)) eY),ay (gR cq 2),.aj 0 (bz (aJ (gR cq 3))),aa (sT (aF mO 0 (gC o5 3)) [(0,.ptr 0 0 0),(9,c5),(10,iI (-1))]),aC (gC dQ 3),.aj 0 (bz (([]:List (AV×AV))))]) λIe ma=>bif gJ Ie then bL [av (gB ma 0),aa (sT (aF eC 0 (gC ma 1)) eY),ay (gR ma 2),.aj 0 (bz (aJ (gR ma 3)))]else bL [c5,aa (sT (aF eC 0 (gC ma 0)) eY),ay (gR ma 1),.aj 0 (bz (aJ (gR ma 2)))]else bL [av (gB dQ 0),aa (sT (aF eC 0 (gC dQ 1)) eY),ay (gR dQ 2),.aj 0 (bz (aJ (gR dQ 3)))]else bL [av (gB o2 0),aa (sT (aF eC 0 (gC o2 1)) eY),ay (gR o2 2),.aj 0 (bz (aJ (gR o2 3)))]:aA):=ac
end
noncomputable section
variable {G:Nat->aq->Option UO} {N n:Nat} {i0 i1 i2:Int} {l0 l1 l2 l3 l4 l5 l6:aq} {r0 r1 r2 r3 r4 r5 r6 r7:aE}
def aAp:ZN G N [aa l0,ay r1,.aj 0 r2,aa l3]=(kg (ja l3 20) 1 (jw (cy l0 (.mp 2)) (bB r1) (bN r2) (aC l3) []) (ca (ig 16 l3 20) (jw (cy l0 (.mp 2)) (bB r1) (bN r2) (aC l3) []) (nJ l3 9) (gT l3 17 (bO (G zV [aC (jk l3 17 0)]) λ_ o1=>eL (cE o1) (jw (cy l0 (.mp 2)) (bB r1) (bN r2) (aC l3) []) (cy l0 (.mp 2)) (bB r1) (bN r2) [aC l3])) (fR (cy l0 (.mp 2)) (bB r1) (bN r2) (aC l3) [])):aA):=ac
def axV:Y0 G N [cu i0,aa l1,ay r2,.aj 0 r3]=(eL (i0==2) (fR eD (cy l1 (.mp 2)) (bB r2) (bN r3) []) (av (i0==3)) (cy l1 (.mp 2)) (bB r2) [bN r3]:aA):=ac
def ayj:I7 G N [cu i0,aa l1,ay r2,.aj 0 r3,aa l4,aa l5,aa l6]=(bif i0==1 then kg 0 (ja l5 11) (lT (cy l1 (.mp 2)) (bB r2) (bN r3) l4 (.ptr 0 0 0) [tA l5,bH l6 (.ptr 0 0 0)]) (bO (G Ss [bH l4 (.ptr 0 0 0),cL l5 10,cy l1 (.mp 2),bB r2,bN r3]) λ_ o5=>lr (cE o5) [cx o5 (.mp 2),bU o5,cb o5,bH l4 (.ptr 0 0 0),tA l5,bH l6 (.ptr 0 0 0)] (bO (G RS [bH l4 (.ptr 0 0 0),cL l5 10,cx o5 (.mp 2),bU o5,cb o5]) λ_ o6=>fR (ke i0) (cx o6 (.mp 2)) (bU o6) (cb o6) [bH l4 (.ptr 0 0 0),tA l5,w7 (bP o6) (.ptr 0 0 0) [(4,cM o6 4)]]))else bO (Y0 G N [ke i0,cy l1 (.mp 2),bB r2,bN r3]) λ_ o7=>ca (dP o7) (ca ((gI l5 10) != 0) (lT (cx o7 (.mp 2)) (bU o7) (cb o7) l4 (.ptr 0 0 0) [tA l5,bH l6 (.ptr 0 0 0)]) ((ln (gR l5 11)) != 1) (lT (cx o7 (.mp 2)) (bU o7) (cb o7) l4 (.ptr 0 0 0) [tA l5,bH l6 (.ptr 0 0 0)]) (gT l5 11 (bO (G AZ [bH l4 (.ptr 0 0 0),nZ l5 11 0,cx o7 (.mp 2),bU o7,cb o7]) λ_ o8=>lr (cE o8) [cx o8 (.mp 2),bU o8,cb o8,bH l4 (.ptr 0 0 0),tA l5,bH l6 (.ptr 0 0 0)] (bO (G zV [pQ 12 l5]) λ_ o9=>eL (cE o9) (lT (cx o8 (.mp 2)) (bU o8) (cb o8) l4 (.ptr 0 0 0) [tA l5,bH l6 (.ptr 0 0 0)]) (ke 2) (cx o8 (.mp 2)) (bU o8) [cb o8,bH l4 (.ptr 0 0 0),tA l5,bH l6 (.ptr 0 0 0)])))) (i0==4) (ca ((gI l5 10) != 0) (lT (cx o7 (.mp 2)) (bU o7) (cb o7) l4 (.ptr 0 0 0) [tA l5,bH l6 (.ptr 0 0 0)]) (ig 0 l5 11) (lT (cx o7 (.mp 2)) (bU o7) (cb o7) l4 (.ptr 0 0 0) [tA l5,bH l6 (.ptr 0 0 0)]) (bO (G zV [pQ 12 l5]) λ_ cO=>lr (cE cO) [cx o7 (.mp 2),bU o7,cb o7,bH l4 (.ptr 0 0 0),tA l5,bH l6 (.ptr 0 0 0)] (bO (G zV [pQ 33 l5]) λ_ dQ=>eL (cE dQ) (lT (cx o7 (.mp 2)) (bU o7) (cb o7) l4 (.ptr 0 0 0) [tA l5,bH l6 (.ptr 0 0 0)]) (ke i0) (cx o7 (.mp 2)) (bU o7) [cb o7,bH l4 (.ptr 0 0 0),tA l5,bH l6 (.ptr 0 0 0)]))) (lT (cx o7 (.mp 2)) (bU o7) (cb o7) l4 (.ptr 0 0 0) [tA l5,bH l6 (.ptr 0 0 0)]):aA):=ac
def aiK:Cc G N (n+1) [fy r0,iI i1,iI i2,aa l3,ay r4,.aj 0 r5,aa l6,.aj 0 r7]=(bif cH i2 i1 then eh i2 r0<|bO (G MJ [aa (sT (aF mO 0 l6) pX),aa (aF qP 1 (bp r0 i2)),aa (sT (aF eC 0 l3) eY),ay r4,.aj 0 (bz (aJ r5))]) λ_ o4=>bif !(gB o4 0)then bL [aT,aa (sT (aF eC 0 (gC o4 1)) eY),ay (gR o4 2),.aj 0 (bz (aJ (gR o4 3))),aa (sT (aF mO 0 l6) pX),.aj 0 (bz (aJ r7))]else bO (I7 G N [cu (gI (bp r0 i2) 0),aa (sT (aF eC 0 (gC o4 1)) eY),ay (gR o4 2),.aj 0 (bz (aJ (gR o4 3))),aa (sT (aF mO 0 l6) pX),tA (bp r0 i2),aa (sT (aF mO 0 l6) pX)]) λuJ cq=>bif gJ uJ then match ah.ew (aJ r7) (cu (gI cq 0))with|some Io=>(bO (G nS [aa (sT (aF mO 0 (gC cq 6)) pX),aa (aF fC 12 (gC cq 5)),aa (sT (aF eC 0 (gC cq 1)) eY),ay (gR cq 2),.aj 0 (bz (aJ (gR cq 3)))]) λ_ dr=>bif !(gB dr 0)then bL [aT,aa (sT (aF eC 0 (gC dr 1)) eY),ay (gR dr 2),.aj 0 (bz (aJ (gR dr 3))),aa (sT (aF mO 0 (gC cq 4)) pX),.aj 0 (bz (ah.lY (aJ r7) (cu (gI cq 0)) (iI (aU (Io.toI+1)))))]else bO (G nS [aa (sT (aF mO 0 (gC cq 4)) pX),aa (aF fC 33 (gC cq 5)),aa (sT (aF eC 0 (gC dr 1)) eY),ay (gR dr 2),.aj 0 (bz (aJ (gR dr 3)))]) λ_ dI=>bif !(gB dI 0)then bL [aT,aa (sT (aF eC 0 (gC dI 1)) eY),ay (gR dI 2),.aj 0 (bz (aJ (gR dI 3))),aa (sT (aF mO 0 (gC cq 4)) pX),.aj 0 (bz (ah.lY (aJ r7) (cu (gI cq 0)) (iI (aU (Io.toI+1)))))]else Cc G N n [fy r0,iI i1,bZ i2,aa (sT (aF eC 0 (gC dI 1)) eY),ay (gR dI 2),.aj 0 (bz (aJ (gR dI 3))),aa (sT (aF mO 0 (gC cq 4)) pX),.aj 0 (bz (ah.lY (aJ r7) (cu (gI cq 0)) (iI (aU (Io.toI+1)))))])|none=>(bO (G nS [aa (sT (aF mO 0 (gC cq 6)) pX),aa (aF fC 12 (gC cq 5)),aa (sT (aF eC 0 (gC cq 1)) eY),ay (gR cq 2),.aj 0 (bz (aJ (gR cq 3)))]) λ_ jU=>bif !(gB jU 0)then bL [aT,aa (sT (aF eC 0 (gC jU 1)) eY),ay (gR jU 2),.aj 0 (bz (aJ (gR jU 3))),aa (sT (aF mO 0 (gC cq 4)) pX),.aj 0 (bz (ah.lY (aJ r7) (cu (gI cq 0)) (iI 1)))]else bO (G nS [aa (sT (aF mO 0 (gC cq 4)) pX),aa (aF fC 33 (gC cq 5)),aa (sT (aF eC 0 (gC jU 1)) eY),ay (gR jU 2),.aj 0 (bz (aJ (gR jU 3)))]) λ_ dO=>bif !(gB dO 0)then bL [aT,aa (sT (aF eC 0 (gC dO 1)) eY),ay (gR dO 2),.aj 0 (bz (aJ (gR dO 3))),aa (sT (aF mO 0 (gC cq 4)) pX),.aj 0 (bz (ah.lY (aJ r7) (cu (gI cq 0)) (iI 1)))]else Cc G N n [fy r0,iI i1,bZ i2,aa (sT (aF eC 0 (gC dO 1)) eY),ay (gR dO 2),.aj 0 (bz (aJ (gR dO 3))),aa (sT (aF mO 0 (gC cq 4)) pX),.aj 0 (bz (ah.lY (aJ r7) (cu (gI cq 0)) (iI 1)))])else bL [av (gB cq 0),aa (sT (aF eC 0 (gC cq 1)) eY),ay (gR cq 2),.aj 0 (bz (aJ (gR cq 3))),aa (sT (aF mO 0 (gC cq 4)) pX),.aj 0 (bz (aJ r7))]else oo [aa (sT (aF eC 0 l3) eY),ay r4,.aj 0 (bz (aJ r5)),aa (sT (aF mO 0 l6) pX),.aj 0 (bz (aJ r7))]:aA):=ac
def azk:RQ G N [iI i0,aa l1,ay r2,.aj 0 r3,.aj 0 r4]=(match ah.ew (aJ r4) (cu 2)with|some m20=>(bif cH 0 (m20.toI)then bL [bZ i0,aa (sT (aF eC 0 l1) eY),ay r2,.aj 0 (bz (aJ r3)),.aj 0 (bz (aJ r4))]else bL [iI i0,aa (sT (aF eC 0 l1) eY),ay r2,.aj 0 (bz (aJ r3)),.aj 0 (bz (aJ r4))])|none=>(bL [iI i0,aa (sT (aF eC 0 l1) eY),ay r2,.aj 0 (bz (aJ r3)),.aj 0 (bz (aJ r4))]):aA):=ac
def aBQ:bG CX EE G N MR [aa l0,aa l1,aa l2,ay r3,.aj 0 r4]=(bO (ZN G N [aa (sT (aF eC 0 l2) eY),ay r3,.aj 0 (bz (aJ r4)),aC l1]) λq2 o2=>bif gJ q2 then a8 (cH 0 (ln (gR (gC o2 3) 17)))<|bO (G nS [aa (sT (aF mO 0 l0) [(0,.ptr 0 0 0),(10,iI (-1))]),aC (gA (gR (gC o2 3) 17) 0),aa (sT (aF eC 0 (gC o2 0)) eY),ay (gR o2 1),.aj 0 (bz (aJ (gR o2 2)))]) λ_ o3=>bif !(gB o3 0)then bL [aT,aa (sT (aF eC 0 (gC o3 1)) eY),ay (gR o3 2),.aj 0 (bz (aJ (gR o3 3)))]else bO (Cc G N N [fy (gR (gC o2 3) 20),iI (ln (gR (gC o2 3) 20)),iI 0,aa (sT (aF eC 0 (gC o3 1)) eY),ay (gR o3 2),.aj 0 (bz (aJ (gR o3 3))),aa (sT (aF mO 0 l0) [(0,.ptr 0 0 0),(10,iI (-1))]),.aj 0 (bz (([]:List (AV×AV))))]) λQr jI=>bif gJ Qr then bL [av (gB jI 0),aa (sT (aF eC 0 (gC jI 1)) eY),ay (gR jI 2),.aj 0 (bz (aJ (gR jI 3)))]else match ah.ew (aJ (gR jI 4)) (cu 4)with|some m19=>(bO (RQ G N [iI m19.toI,aa (sT (aF eC 0 (gC jI 0)) eY),ay (gR jI 1),.aj 0 (bz (aJ (gR jI 2))),.aj 0 (bz (aJ (gR jI 4)))]) λ_ mJ=>bif gB (gC o2 3) 9 then match ah.ew (aJ (gR mJ 4)) (cu 1)with|some Qw=>(bif cH 0 (Qw.toI)then bL [av (dJ (aU (gI mJ 0+1)) 1),aa (sT (aF eC 0 (gC mJ 1)) eY),ay (gR mJ 2),.aj 0 (bz (aJ (gR mJ 3)))]else bL [aT,aa (sT (aF eC 0 (gC mJ 1)) eY),ay (gR mJ 2),.aj 0 (bz (aJ (gR mJ 3)))])|none=>(bL [aT,aa (sT (aF eC 0 (gC mJ 1)) eY),ay (gR mJ 2),.aj 0 (bz (aJ (gR mJ 3)))])else match ah.ew (aJ (gR mJ 4)) (cu 1)with|some Qv=>(bif cH 0 (Qv.toI)then bL [av (dJ (gI mJ 0) 1),aa (sT (aF eC 0 (gC mJ 1)) eY),ay (gR mJ 2),.aj 0 (bz (aJ (gR mJ 3)))]else bL [aT,aa (sT (aF eC 0 (gC mJ 1)) eY),ay (gR mJ 2),.aj 0 (bz (aJ (gR mJ 3)))])|none=>(bL [aT,aa (sT (aF eC 0 (gC mJ 1)) eY),ay (gR mJ 2),.aj 0 (bz (aJ (gR mJ 3)))]))|none=>(bO (RQ G N [iI 0,aa (sT (aF eC 0 (gC jI 0)) eY),ay (gR jI 1),.aj 0 (bz (aJ (gR jI 2))),.aj 0 (bz (aJ (gR jI 4)))]) λ_ mY=>bif gB (gC o2 3) 9 then match ah.ew (aJ (gR mY 4)) (cu 1)with|some m25=>(bif cH 0 (m25.toI)then bL [av (dJ (aU (gI mY 0+1)) 1),aa (sT (aF eC 0 (gC mY 1)) eY),ay (gR mY 2),.aj 0 (bz (aJ (gR mY 3)))]else bL [aT,aa (sT (aF eC 0 (gC mY 1)) eY),ay (gR mY 2),.aj 0 (bz (aJ (gR mY 3)))])|none=>(bL [aT,aa (sT (aF eC 0 (gC mY 1)) eY),ay (gR mY 2),.aj 0 (bz (aJ (gR mY 3)))])else match ah.ew (aJ (gR mY 4)) (cu 1)with|some m26=>(bif cH 0 (m26.toI)then bL [av (dJ (gI mY 0) 1),aa (sT (aF eC 0 (gC mY 1)) eY),ay (gR mY 2),.aj 0 (bz (aJ (gR mY 3)))]else bL [aT,aa (sT (aF eC 0 (gC mY 1)) eY),ay (gR mY 2),.aj 0 (bz (aJ (gR mY 3)))])|none=>(bL [aT,aa (sT (aF eC 0 (gC mY 1)) eY),ay (gR mY 2),.aj 0 (bz (aJ (gR mY 3)))]))else bL [av (gB o2 0),aa (sT (aF eC 0 (gC o2 1)) eY),ay (gR o2 2),.aj 0 (bz (aJ (gR o2 3)))]:aA):=ac
def aCq:bG CX EE G N Si [aw r0]=(bif r0.isEmpty then none else a8 (Ir r0)<|j8 (ba (([]:aE)++r0)):aA):=ac
def aAw:bG CX EE G N Jd []=(j8 eM:aA):=ac
def aAv:bG CX EE G N Jc []=(j8 eM:aA):=ac
def aIZ:bG CX EE G N GA [aw r0,iI i1]=(bO (Fi tI (G Jd) (G Jc) (G Si) [ba r0]) λ_ o1=>o0 (((gR o1 0).length +1)*8) (j8 (ba ((gR o1 0)++([[iI i1]]:aE)))):aA):=ac
def azO:bG CX EE G N RS [aa l0,iI i1,aa l2,ay r3,.aj 0 r4]=(bO (G Jm [bH l0 (.ptr 0 0 0),cy l2 (.mp 2),bB r3,bN r4]) λ_ o1=>bO (G GA [cM (bP o1) 4,iI i1]) λ_ o2=>fR (gk aKr (bP o1) 0 (.ptr 0 0 0) [k6 4 3,(10,iI i1)]) (cx o1 (.mp 2)) (bU o1) (cb o1) [iD o2]:aA):=ac
def aBS:bG CX EE G N Se [aa l0,iI i1,aa l2,ay r3,.aj 0 r4]=(bO (G Jm [bH l0 (.ptr 0 0 0),cy l2 (.mp 2),bB r3,bN r4]) λ_ o1=>bO (G GA [cM (bP o1) 5,iI i1]) λ_ o2=>fR (gk aKs (bP o1) 0 (.ptr 0 0 0) [k6 5 3]) (cx o1 (.mp 2)) (bU o1) (cb o1) [iD o2]:aA):=ac
def aBO:bG CX EE G N Z6 [aa l0,aa l1,aa l2,ay r3,.aj 0 r4]=(bO (G nS [bH l1 (.ptr 0 0 0),aC l0,cy l2 (.mp 2),bB r3,bN r4]) λ_ o1=>lj (cE o1) (bH l1 (.ptr 1 0 0)) (jZ o1 1 2 (.mp 3)) (bU o1) [cb o1]:aA):=ac
def YA:Rn G N (n+1) [dv r0,iI i1,iI i2,aa l3,aa l4,ay r5,.aj 0 r6]=(mB i2 i1 r0 (bO (G Z6 [aC (bp r0 i2),bH l3 (.ptr 1 0 0),mV l4 2 (.mp 3),bB r5,bN r6]) λ_ o1=>nj (dP o1) i2 (pR o1 (.ptr 1 0 0)) [jZ o1 2 2 (.mp 3),jM o1,kY o1] (Rn G N n [da r0,iI i1,bZ i2,pR o1 (.ptr 1 0 0),jZ o1 2 2 (.mp 3),jM o1,kY o1])) (bH l3 (.ptr 1 0 0)) [mV l4 2 (.mp 3),bB r5,bN r6]:aA):=ac
def ahX:bG CX EE G N Rr [dv r0,aa l1,aa l2,ay r3,.aj 0 r4]=(bO (Rn G N N (da r0::pS r0::dS (bH l1 (.ptr 1 0 0)) (mV l2 2 (.mp 3)) [bB r3,bN r4])) λq2 o2=>fS q2 (fR (eU o2) (pR o2 (.ptr 1 0 0)) (jZ o2 2 2 (.mp 3)) (jM o2) [kY o2]) (iI (-1)) [bH (bP o2) (.ptr 1 0 0),jZ o2 1 2 (.mp 3),bU o2,cb o2]:aA):=ac
def ahO:bG CX EE G N YC [dv r0,aa l1,aa l2,ay r3,.aj 0 r4]=(bO (G Rr [da r0,bH l1 (.ptr 1 0 0),mV l2 2 (.mp 3),bB r3,bN r4]) λ_ o1=>lj (vd o1) (pR o1 (.ptr 1 0 0)) (jZ o1 2 2 (.mp 3)) (jM o1) [kY o1]:aA):=ac
def aAW:MO G N [aa l0,ay r1,.aj 0 r2,aa l3,aa l4]=(oZ (gI l0 7) 0 (lT (cy l0 (.mp 2)) (bB r1) (bN r2) l3 (.ptr 0 0 0) [aC l4]) (jP 64 l3 11) (lT (cy l0 (.mp 2)) (bB r1) (bN r2) l3 (.ptr 0 0 0) [aC l4]) (bO (G Ti [aC l4]) λ_ o1=>lr (cE o1) [cy l0 (.mp 2),bB r1,bN r2,bH l3 (.ptr 0 0 0),aC l4] (bO (G Z7 [bH l3 (.ptr 0 0 0),aC l4,cy l0 (.mp 2),bB r1,bN r2]) λ_ o2=>lr (cE o2) [cx o2 (.mp 2),bU o2,cb o2,bH l3 (.ptr 0 0 0),aC l4] (bO (G MW [bH l3 (.ptr 0 0 0),aC l4,cx o2 (.mp 2),bU o2,cb o2]) λ_ o3=>eL (cE o3) (lT (cx o3 (.mp 2)) (bU o3) (cb o3) l3 (.ptr 0 0 0) [aC l4]) (cx o3 (.mp 2)) (bU o3) (cb o3) [bH l3 (.ptr 0 0 0),aC l4]))):aA):=ac
end
noncomputable section
variable {G:Nat->aq->Option UO} {N n:Nat} {b0:Bool} {i0 i1 i2 i3:Int} {l0 l1 l2 l3 l4:aq} {r0 r1 r2 r3 r4 r5:aE}
def RX:AY G N [aa l0,ay r1,.aj 0 r2,aa l3,aa l4]=(ca ((gI l4 0)==9) (bO (G MX [bH l3 (.ptr 0 0 0),aC l4,cy l0 (.mp 2),bB r1,bN r2]) λ_ o5=>rJ o5 [cx o5 (.mp 2),bU o5,cb o5,bH l3 (.ptr 0 0 0),aC l4]) ((gI l4 0)==19) (bO (G MR [bH l3 (.ptr 0 0 0),aC l4,cy l0 (.mp 2),bB r1,bN r2]) λ_ o6=>rJ o6 [cx o6 (.mp 2),bU o6,cb o6,bH l3 (.ptr 0 0 0),aC l4]) (ca ((gI l4 0)==18) (bO (G RS [bH l3 (.ptr 0 0 0),cL l4 5,cy l0 (.mp 2),bB r1,bN r2]) λ_ o7=>gT l4 17 (bO (G nS [w7 (bP o7) (.ptr 0 0 0) [(4,cM o7 4)],aC (jk l4 17 0),cx o7 (.mp 2),bU o7,cb o7]) λ_ o8=>sW o8 0 (v8 1 l4 17 (bO (G nS [w7 l3 (.ptr 0 0 0) [(10,iI (-1))],aC (jk l4 17 1),cx o8 (.mp 2),bU o8,cb o8]) λ_ o9=>rJ o9 [cx o9 (.mp 2),bU o9,cb o9,bH l3 (.ptr 0 0 0),aC l4])) (lT (cx o8 (.mp 2)) (bU o8) (cb o8) l3 (.ptr 0 0 0) [aC l4]))) ((gI l4 0)==20) (bO (G Se [bH l3 (.ptr 0 0 0),cL l4 4,cy l0 (.mp 2),bB r1,bN r2]) λ_ cO=>gT l4 17 (bO (G nS [w7 (bP cO) (.ptr 0 0 0) [(5,cM cO 4)],aC (jk l4 17 0),cx cO (.mp 2),bU cO,cb cO]) λ_ dQ=>rJ dQ [cx dQ (.mp 2),bU dQ,cb dQ,bH l3 (.ptr 0 0 0),aC l4])) (bif (gI l4 0)==17 then bO (G Se [bH l3 (.ptr 0 0 0),cL l4 4,cy l0 (.mp 2),bB r1,bN r2]) λ_ cq=>gT l4 17 (bO (G nS [w7 (bP cq) (.ptr 0 0 0) [(5,cM cq 4)],aC (jk l4 17 0),cx cq (.mp 2),bU cq,cb cq]) λ_ fr=>sW fr 0 (v8 1 l4 17 (bO (G nS [w7 l3 (.ptr 0 0 0) [(10,iI (-1))],aC (jk l4 17 1),cx fr (.mp 2),bU fr,cb fr]) λ_ dr=>sW dr 0 (v8 2 l4 17 (bO (G nS [w7 l3 (.ptr 0 0 0) [(10,iI (-1))],aC (jk l4 17 2),cx dr (.mp 2),bU dr,cb dr]) λ_ dI=>rJ dI [cx dI (.mp 2),bU dI,cb dI,bH l3 (.ptr 0 0 0),aC l4])) (lT (cx dr (.mp 2)) (bU dr) (cb dr) l3 (.ptr 0 0 0) [aC l4]))) (lT (cx fr (.mp 2)) (bU fr) (cb fr) l3 (.ptr 0 0 0) [aC l4]))else ca ((gI l4 0)==16) (fR (cy l0 (.mp 2)) (bB r1) (bN r2) (w7 l3 (.ptr 0 0 0) [(10,iI (-1))]) [aC l4]) ((gI l4 0)==7) (bO (G GA [cM l3 2,mC l4]) λ_ jU=>bO (G GA [cM l3 3,mC l4]) λ_ dO=>fR (cy l0 (.mp 2)) (bB r1) (bN r2) (w7 l3 (.ptr 0 0 0) [(2,iD jU),(3,iD dO)]) [aC l4]) (eL ((gI l4 0)==6) (bO (G GA [cM l3 6,cL l4 2]) λ_ jI=>fR (cy l0 (.mp 2)) (bB r1) (bN r2) (w7 l3 (.ptr 0 0 0) [(6,iD jI)]) [aC l4]) (cy l0 (.mp 2)) (bB r1) (bN r2) [bH l3 (.ptr 0 0 0),aC l4]))):aA):=ac
def aDq:bG CX EE G N nS [aa l0,aa l1,aa l2,ay r3,.aj 0 r4]=(bO (MO G N [age l2 1 7 (iE ((gI l2 7)- 1)) aZS,bB r3,bN r4,bH l0 (.ptr 0 0 0),aC l1]) λq4 o4=>iL q4 (bO (AY G N [kf o4 0 (.mp 2),iF o4 1,lL o4 2,w7 (lI o4) (.ptr 0 0 0) [(11,iE ((gI (lI o4) 11)+1))],aC (fZ o4)]) λIe ma=>iL Ie (bO (G YC [pB (fZ ma) 17,sv ma (.ptr 1 0 0),jZ ma 0 2 (.mp 3),iF ma 1,lL ma 2]) λ_ zG=>lj (cE zG) (kf zG 2 (.mp 2)) (jM zG) (kY zG) []) ma [cx ma (.mp 2),bU ma,cb ma]) o4 [cx o4 (.mp 2),bU o4,cb o4]:aA):=ac
def aH6:ab9 G N [aa l0]=(bO (G abq [lK l0 0]) λ_ o1=>lr (cE o1) [cz l0] (oZ (jF l0) 4 (iU (cz l0)) (cH 64 (jF l0)) (iU (cz l0)) (oZ (ja l0 2) 1 (iU (cz l0)) (ig 32 l0 2) (iU (cz l0)) (kg 32 (ja l0 3) (iU (cz l0)) (gT l0 2 (lu (ig 0 (jk l0 2 0) 1) (iU (cz l0)) (cz l0) []))))):aA):=ac
def akY:NF G N (n+1) [ng r0,iI i1,iI i2]=(kg i2 i1 (eh i2 r0 (oZ (lJ r0 i2) 0 fm (cH 31 (lJ r0 i2)) fm (ca (ig 8 (bp r0 i2) 1) fm (cH (gI (bp r0 i2) 23) 0) fm (kg 2147483647 (gI (bp r0 i2) 23) fm (NF G N n [ng r0,iI i1,bZ i2]))))) (oo []):aA):=ac
def ak0:S9 G N [aa l0]=(bO (NF G N N (eW Eg l0 2::jx l0 2::nv [])) λq3 o3=>fS q3 (rJ o3 [cz l0]) (cz l0) []:aA):=ac
def aDl:aaG G N [aa l0]=(oZ (mq l0) 0 (iU (qj l0)) (cH 31 (mq l0)) (iU (qj l0)) (lu (ig 8 l0 2) (iU (qj l0)) (qj l0) []):aA):=ac
def ajF:Gm G N (n+1) [bR r0,iI i1,iI i2,aa l3,aa l4]=(mB i2 i1 r0 (bO (G SB [oD (lK l3 0) (jx l4 2) [],bK (bp r0 i2)]) λ_ o7=>jS (nJ o7 1) (cz l3) [qj l4] (bO (G wJ [mT o7]) λ_ o8=>jS (cE o8) (cz l3) [qj l4] (bO (G NN [lK l3 0,cM l4 1,bK (bp r0 i2)]) λ_ o9=>jS (cE o9) (cz l3) [qj l4] (Gm G N n [bQ r0,iI i1,bZ i2,cz l3,qj l4])))) (cz l3) [qj l4]:aA):=ac
def akk:JG G N (n+1) [uf r0,iI i1,iI i2,aa l3]=(mB i2 i1 r0 (bO (aaG G N [qj (bp r0 i2)]) λq6 o6=>iL q6 (bO (Gm G N N ((pa (bP o6) 2)::(jx (bP o6) 2)::dS (cz l3) (qj (bP o6)) [])) λuK cO=>lq (gJ uK) (eK cO) (rL cO) [] (JG G N n [uf r0,iI i1,bZ i2,nD cO])) o6 [cz l3]) (cz l3) []:aA):=ac
def akG:S0 G N [aa l0]=(bO (JG G N N (eW JU l0 3::jx l0 3::nF (cz l0) [])) λyu dQ=>fS yu (rJ dQ [rL dQ]) (nD dQ) []:aA):=ac
def akj:JF G N (n+1) [ng r0,iI i1,iI i2,aa l3,.aj 0 r4,ay r5]=(mB i2 i1 r0 (bO (G nS [oD (.ptr 0 0 0) (iI i2) (eM::eM::eM::eM::eM::dp::dp::dp::(iI (-1))::nv []),pQ 2 (bp r0 i2),cy l3 (.mp 2),bB r5,bN r4]) λ_ fr=>jS (cE fr) (jZ fr 1 2 (.mp 1)) [cb fr,bU fr] (JF G N n [ng r0,iI i1,bZ i2,jZ fr 1 2 (.mp 1),cb fr,bU fr])) (mV l3 2 (.mp 1)) [bN r4,bB r5]:aA):=ac
def aaM:JE G N (n+1) [iI i0,iI i1,aa l2,.aj 0 r3,ay r4]=(bif cH i1 i0 then bif cH 0 i1 then match ah.ew (aJ r3) (iI i1)with|some m15=>(bif m15.toI != 1 then bL [aT,aa (sT (aF eC 0 l2) Lq),.aj 0 (bz (aJ r3)),ay r4]else JE G N n [iI i0,bZ i1,aa (sT (aF eC 0 l2) Lq),.aj 0 (bz (aJ r3)),ay r4])|none=>(bL [aT,aa (sT (aF eC 0 l2) Lq),.aj 0 (bz (aJ r3)),ay r4])else JE G N n [iI i0,bZ i1,aa (sT (aF eC 0 l2) Lq),.aj 0 (bz (aJ r3)),ay r4]else oo [aa (sT (aF eC 0 l2) Lq),.aj 0 (bz (aJ r3)),ay r4]:aA):=ac
def N0:bG CX EE G N xA [aa l0]=(bO (ab9 G N [cz l0]) λq2 o2=>bif gJ q2 then bO (S9 G N [cz (gC o2 0)]) λq4 o4=>bif gJ q4 then bO (G Tj [cz (gC o4 0)]) λ_ o5=>bif !(gB o5 0)then fm else bO (S0 G N [cz (gC o4 0)]) λuJ cq=>bif gJ uJ then bO (JF G N N [ng (gR (gC cq 0) 2),iI (ln (gR (gC cq 0) 2)),iI 0,aa [dg (gR (gC o4 0) 0),iI (-1),dg (gR (gC o4 0) 0),iI (gI (gC o4 0) 1),ng (gR (gC o4 0) 2),uf (gR (gC o4 0) 3),.ak 2,iI 8192,.mp 1],.aj 0 (bz (([]:List (AV×AV)))),ay (gR o5 1)]) λAv dr=>bif gJ Av then bL [av (gB dr 0)]else bO (JE G N N [iI (ln (gR (gC cq 0) 2)),iI 0,aa (sT (aF eC 0 (gC dr 0)) Lq),.aj 0 (bz (aJ (gR dr 1))),ay (gR dr 2)]) λIg jU=>bif gJ Ig then bL [av (gB jU 0)]else cV else bL [av (gB cq 0)]else bL [av (gB o4 0)]else bL [av (gB o2 0)]:aA):=ac
def aHz:bG CX EE G N abG [aa l0]=(j8 (aC l0):aA):=ac
def aiW:RU G N (n+1) [fO r0,iI i1,iI i2,aa l3,aa l4]=(fN (cH i2 i1) (eh i2 r0 (bO (G yN [aC (bp r0 i2)]) λ_ o2=>bO (G yN [pQ 21 (bp r0 i2)]) λ_ o3=>RU G N n [gj r0,iI i1,bZ i2,di (.ptr 1 0 0),di (iE ((aU ((gI l4 0)+(gI o2 0)))+(gI o3 0)))])) (di (.ptr 1 0 0)) (gX l4):aA):=ac
def aAu:ZS G N [aa l0,aa l1,aa l2]=(bO (RU G N N (eW Cf l1 18::jx l1 18::dS (di (.ptr 1 0 0)) (gX l2) [])) λ_ o4=>jG (di (.ptr 2 0 0)) (aC l1) (qq o4) []:aA):=ac
def aiV:RT G N (n+1) [dv r0,iI i1,iI i2,aa l3,aa l4]=(fN (cH i2 i1) (eh i2 r0 (bO (G yN [aC (bp r0 i2)]) λ_ o6=>RT G N n [da r0,iI i1,bZ i2,di (.ptr 1 0 0),di (iE ((gI l4 0)+(gI o6 0)))])) (di (.ptr 1 0 0)) (gX l4):aA):=ac
def aAt:ZR G N [aa l0,aa l1,aa l2]=(bO (RT G N N (pB l1 17::jx l1 17::dS (di (.ptr 1 0 0)) (gX l2) [])) λ_ o7=>jG (di (.ptr 2 0 0)) (aC l1) (qq o7) []:aA):=ac
def aiU:MM G N (n+1) [fV r0,iI i1,iI i2,aa l3,aa l4]=(fN (cH i2 i1) (eh i2 r0 (bO (G yN [pQ 1 (bp r0 i2)]) λ_ o9=>MM G N n [gG r0,iI i1,bZ i2,di (.ptr 1 0 0),di (iE ((gI l4 0)+(gI o9 0)))])) (di (.ptr 1 0 0)) (gX l4):aA):=ac
def aiT:ML G N (n+1) [fy r0,iI i1,iI i2,aa l3,aa l4]=(fN (cH i2 i1) (eh i2 r0 (bO (G yN [pQ 12 (bp r0 i2)]) λ_ dQ=>bO (G yN [pQ 33 (bp r0 i2)]) λ_ cq=>ML G N n [gL r0,iI i1,bZ i2,di (.ptr 1 0 0),di (iE ((aU ((gI l4 0)+(gI dQ 0)))+(gI cq 0)))])) (di (.ptr 1 0 0)) (gX l4):aA):=ac
def aIk:bG CX EE G N yN [aa l0]=(bO (G abG [aC l0]) λ_ o1=>bO (ZS G N [di (.ptr 2 0 0),um o1,di (iI 1)]) λ_ o5=>bO (ZR G N [di (.ptr 2 0 0),qt o5,gX (dN o5)]) λ_ o8=>bO (MM G N N ((eW Eb (bu o8) 19)::(jx (bu o8) 19)::dS (di (.ptr 1 0 0)) (gX (dN o8)) [])) λ_ cO=>bO (ML G N N ((eW Eh (bu o8) 20)::(jx (bu o8) 20)::dS (di (.ptr 1 0 0)) (qq cO) [])) λ_ fr=>j8 (eU (bu fr)):aA):=ac
def aym:bG CX EE G N D5 [aa l0,aa l1,aa l2,hY r3]=(o0 ((r3.length+1)*280) (bO (G yN [aC l0]) λ_ o1=>jG (lU 3) (di (iE ((gI l2 0)+(gI o1 0)))) (ie (r3++([sT (aF wI 0 l0) [(21,eU l2)]]:aE))) []):aA):=ac
def aiw:Mz G N (n+1) [fO r0,iI i1,iI i2,aa l3,aa l4,hY r5]=(eL (cH i2 i1) (eh i2 r0 (bO (G D5 [aC (bp r0 i2),lU 2,gX l4,ie r5]) λ_ o1=>bO (G D5 [pQ 21 (bp r0 i2),lU 2,qq o1,qo o1 2]) λ_ o2=>Mz G N n [gj r0,iI i1,bZ i2,lU 2,qq o2,qo o2 2])) (lU 2) (gX l4) (ie r5) []:aA):=ac
def ax3:Y3 G N [aa l0,aa l1,aa l2,hY r3]=(bO (Mz G N N (eW Cf l0 18::jx l0 18::dS (lU 2) (gX l2) [ie r3])) λ_ o3=>fR (jK l0) (lU 3) (qq o3) (qo o3 2) []:aA):=ac
def aiv:My G N (n+1) [dv r0,iI i1,iI i2,aa l3,aa l4,hY r5]=(eL (cH i2 i1) (eh i2 r0 (bO (G D5 [aC (bp r0 i2),lU 2,gX l4,ie r5]) λ_ o5=>My G N n [da r0,iI i1,bZ i2,lU 2,qq o5,qo o5 2])) (lU 2) (gX l4) (ie r5) []:aA):=ac
def ax2:Y2 G N [aa l0,aa l1,aa l2,hY r3]=(bO (My G N N (pB l0 17::jx l0 17::dS (lU 2) (gX l2) [ie r3])) λ_ o6=>fR (jK l0) (lU 3) (qq o6) (qo o6 2) []:aA):=ac
def aiu:I4 G N (n+1) [fV r0,iI i1,iI i2,aa l3,aa l4,hY r5]=(eL (cH i2 i1) (eh i2 r0 (bO (G D5 [pQ 1 (bp r0 i2),lU 2,gX l4,ie r5]) λ_ o8=>I4 G N n [gG r0,iI i1,bZ i2,lU 2,qq o8,qo o8 2])) (lU 2) (gX l4) (ie r5) []:aA):=ac
def ait:I3 G N (n+1) [fy r0,iI i1,iI i2,aa l3,aa l4,hY r5]=(eL (cH i2 i1) (eh i2 r0 (bO (G D5 [pQ 12 (bp r0 i2),lU 2,gX l4,ie r5]) λ_ cO=>bO (G D5 [pQ 33 (bp r0 i2),lU 2,qq cO,qo cO 2]) λ_ dQ=>I3 G N n [gL r0,iI i1,bZ i2,lU 2,qq dQ,qo dQ 2])) (lU 2) (gX l4) (ie r5) []:aA):=ac
def ayV:bG CX EE G N Cb [aa l0]=(bO (Y3 G N [jK l0,lU 3,di (iE ((gI l0 21)+1)),ie dL]) λ_ o4=>bO (Y2 G N [jK (bP o4),lU 3,gX (dN o4),qo o4 3]) λ_ o7=>bO (I4 G N N ((eW Eb (bP o7) 19)::(jx (bP o7) 19)::dS (lU 2) (gX (dN o7)) [qo o7 3])) λ_ o9=>bO (I3 G N N ((eW Eh (bP o7) 20)::(jx (bP o7) 20)::dS (lU 2) (qq o9) [qo o9 2])) λ_ cq=>j8 (qo cq 2):aA):=ac
def aAk:ZI G N [aa l0,hY r1]=(fN (gB l0 23) (dh (kh ql l0 22 1 [(23,eD)]) (ie r1)) (kh ql l0 22 1 [(23,av (ig 0 l0 16))]) (ie r1):aA):=ac
def aAj:ZH G N [av b0,hY r1,aa l2,hY r3]=(hZ ((gI l2 0)==3) (hZ b0 (jG (av (cH 0 (ln r1))) (kh ql l2 22 1 []) (ie r3) []) (kh ql l2 22 1 []) (ie r3) []) (kh ql l2 22 1 []) (ie r3) []:aA):=ac
def aAi:ZG G N [aa l0,hY r1]=(fN (gB l0 24) (dh (kh ql l0 22 1 [(24,eD)]) (ie r1)) (kh ql l0 22 1 [(24,av (ig 0 l0 19))]) (ie r1):aA):=ac
def aiS:Ge G N (n+1) [hY r0,fO r1,iI i2,iI i3,aa l4,hY r5]=(fN (cH i3 i2) (eh i3 r1 (sW l4 24 (eh (aU (2*i3)) r0 (o0 ((r5.length+1)*280) (Ge G N n [ie r0,gj r1,iI i2,bZ i3,kh ql l4 22 1 [(24,eD)],ie (r5++([aF wI 0 (bp r0 (aU (2*i3)))]:aE))]))) (eh (aU (2*i3)) r0 (o0 ((r5.length+1)*280) (Ge G N n [ie r0,gj r1,iI i2,bZ i3,kh ql l4 22 1 [(24,av ((gI (bp r1 i3) 21) != 1))],ie (r5++([aF wI 0 (bp r0 (aU (2*i3)))]:aE))]))))) (kh ql l4 22 1 []) (ie r5):aA):=ac
end
noncomputable section
variable {G:Nat->aq->Option UO} {N n:Nat} {b0 b1:Bool} {i0 i1 i2 i3:Int} {l0 l1 l2 l3 l4 l6 l7:aq} {r0 r1 r2 r3 r4 r5 r6 r7 r8 r9 eZ gD gz gy:aE}
def aBC:MV G N (n+1) [av b0,aa l1,aa l2,bR r3,bR r4,c7 r5,c7 r6,aw r7,dv r8,fO r9,fV eZ,fy gD,hY gz,hY gy]=(bO (G Cb [jK l2]) λ_ o1=>bif gI l2 0==9 then bO (ZI G N [aa (sT (aF ql 0 l2) Xv),hY gy]) λ_ o2=>bO (ZG G N [aa (sT (aF ql 0 (gC o2 0)) Xv),hY (gR o2 1)]) λ_ o3=>bO (Ge G N N [hY (gR o1 0),fO (gR (gC o3 0) 18),iI (ln (gR (gC o3 0) 18)),iI 0,aa (sT (aF ql 0 (gC o3 0)) Xv),hY (gR o3 1)]) λ_ o4=>eh (aU (2*(ln (gR (gC o3 0) 18)))) (gR o1 0)<|MV G N n [av b0,aa (sT (aF adj 0 l1) ahw),aa (sT (aF ql 0 (bp (gR o1 0) (aU (2*(ln (gR (gC o3 0) 18)))))) [(22,.ak 12),(23,av (gB (gC o4 0) 23)),(24,av (gB (gC o4 0) 24))]),bR r3,bR r4,c7 r5,c7 r6,aw r7,dv r8,fO r9,fV eZ,fy gD,hY gz,hY (gR o4 1)]else bO (ZH G N [av b0,hY (gR o1 0),aa (sT (aF ql 0 l2) Xv),hY gy]) λ_ o5=>bif gB o5 0 then a8 (dJ 0 (aU (ln (gR o1 0)- 1))&&dJ (aU (ln (gR o1 0)- 1)) (ln (gR o1 0))&&dJ (ln (gR o1 0)) (ln (gR o1 0)))<|a8 (XN (((gR o5 2).length +((gR o1 0).take ((aU (ln (gR o1 0)- 1)).toNat)).length)*280) 140737488355328)<|eh (aU (ln (gR o1 0)- 1)) (gR o1 0)<|MV G N n [av b0,aa (sT (aF adj 0 l1) ahw),aa (sT (aF ql 0 (bp (gR o1 0) (aU (ln (gR o1 0)- 1)))) [(22,.ak 12),(23,av (gB (gC o5 1) 23)),(24,av (gB (gC o5 1) 24))]),bR r3,bR r4,c7 r5,c7 r6,aw r7,dv r8,fO r9,fV eZ,fy gD,hY gz,hY ((gR o5 2)++((gR o1 0).take ((aU (ln (gR o1 0)- 1)).toNat)))]else bL [aa (sT (aF ql 0 (gC o5 1)) awk),aa (sT (aF ql 0 (gC o5 1)) awk),hY (gR o5 2)]:aA):=ac
def aEs:bG CX EE G N Sr [aa l0,av b1]=(bO (MV G N N [av b1,HB (ke 0) (uo (dS dp dp (dp::dp::dp::ke 0:: .ak 2:: .ak 3:: .ak 4:: .ak 5:: .ak 6:: .ak 7:: .ak 8:: .ak 9:: .ak 10::dS (.ak 11) dp [dp]))),kh ql l0 22 12 [(23,dp),(24,dp)],bQ dL,bQ dL,cT dL,cT dL,eM,da dL,gj dL,gG dL,gL dL,ie dL,ie dL]) λ_ o6=>dh (kh ql (bP o6) 22 0 []) (qo o6 2):aA):=ac
def ax4:bG CX EE G N aiy [aa l0]=(pC ((gI l0 0) != 1):aA):=ac
def ahC:Mm G N (n+1) [bR r0,iI i1,iI i2]=(kg i2 i1 (eh i2 r0 (bO (G aiy [bK (bp r0 i2)]) λ_ o1=>kc (dP o1) (iI i2) [] (Mm G N n [bQ r0,iI i1,bZ i2]))) (oo []):aA):=ac
def ahE:bG CX EE G N Yw [bR r0]=(bO (Mm G N N (bQ r0::pS r0::nv [])) λq2 o2=>fS q2 (j8 (eU o2)) (iI (-1)) []:aA):=ac
def awy:bG CX EE G N Yv [bR r0]=(bO (G Yw [bQ r0]) λ_ o1=>pC (vd o1):aA):=ac
def axU:YZ G N [cu i0]=(ca (i0==5) cV (i0==15) cV (ca (i0==16) cV (i0==17) cV (ca (i0==18) cV (i0==19) cV (lu (i0==21) cV (av (i0==22)) []))):aA):=ac
def ax1:Y1 G N [av b0,aa l1]=(bO (YZ G N [jW l1]) λ_ o1=>ca (dP o1) (iU (jK l1)) ((gI l1 0)==20) (lu b0 (iU (jK l1)) (jK l1) []) (ca ((gI l1 0)==6) (bO (G Yv [pa l1 12]) λ_ o2=>lu (dP o2) (iU (jK l1)) (jK l1) []) ((gI l1 0)==9) (lu (ig 0 l1 16) (iU (jK l1)) (jK l1) []) (j8 (jK l1))):aA):=ac
def ayC:bG CX EE G N MC [aa l0,av b1]=(bO (Y1 G N [av b1,jK l0]) λq3 o3=>iL q3 (bO (G Cb [jK (bP o3)]) λ_ o4=>bO (G Gs [qo o4 0,av b1]) λ_ o5=>nC o5) o3 []:aA):=ac
def aDo:bG CX EE G N ajQ [aa l0,aa l1]=(bO (G MC [jK l0,eK l1]) λ_ o1=>dh (av (cE o1)) (qV l1):aA):=ac
def ahK:Mq G N (n+1) [hY r0,iI i1,iI i2,aa l3]=(mB i2 i1 r0 (bO (G ajQ [jK (bp r0 i2),qV l3]) λ_ o1=>nj (dP o1) i2 (qV (bu o1)) [] (Mq G N n [ie r0,iI i1,bZ i2,qV (bu o1)])) (qV l3) []:aA):=ac
def ahV:bG CX EE G N YE [hY r0,aa l1]=(bO (Mq G N N (ie r0::pS r0::nF (qV l1) [])) λq2 o2=>fS q2 (dh (eU o2) (qV (bu o2))) (iI (-1)) [qV (bP o2)]:aA):=ac
def awL:bG CX EE G N Yz [hY r0,aa l1]=(bO (G YE [ie r0,qV l1]) λ_ o1=>dh (av (vd o1)) (qV (bu o1)):aA):=ac
def aFH:bG CX EE G N Gs [hY r0,av b1]=(bO (G Yz [ie r0,di (av b1)]) λ_ o1=>pC (cE o1):aA):=ac
def aAy:bG CX EE G N Je [aa l0,aa l1,cF r2,cp r3]=(hZ ((gI l0 0)==2) (hZ ((gI l0 3)==(gI l1 54)) (lj ((gI l0 4)==0) (fW l1) (eV r2) (dU r3) []) (fW l1) (eV r2) [dU r3]) (fW l1) (eV r2) [dU r3]:aA):=ac
def ayT:Zk G N [aa l0,cF r1,cp r2,aa l3,aa l4]=(ca (ig 0 l3 1) (jw (fW l0) (eV r1) (dU r2) (zT l3) [jK l4]) (cH (mq l3) 1) (jw (fW l0) (eV r1) (dU r2) (zT l3) [jK l4]) (lr (gB l0 29) [fW l0,eV r1,dU r2,zT l3,jK l4] (ca (gB l0 30) (jw (fW l0) (eV r1) (dU r2) (zT l3) [jK l4]) ((gI l4 0) != 5) (jw (fW l0) (eV r1) (dU r2) (zT l3) [jK l4]) (gT l4 12 (lr ((gI (jk l4 12 0) 0) != 1) [fW l0,eV r1,dU r2,zT l3,jK l4] (gT l4 12 (lr ((gI (jk l4 12 0) 2) != 1) [fW l0,eV r1,dU r2,zT l3,jK l4] (bO (G Gs [qo l0 28,eD]) λ_ o2=>eL (cE o2) (jw (fW l0) (eV r1) (dU r2) (zT l3) [jK l4]) (fW l0) (eV r1) (dU r2) [zT l3,jK l4]))))))):aA):=ac
def ayy:Zc G N [aa l0,cF r1,cp r2,hY r3]=(a8 (cH 0 (ln r3))<|oG 0 r3.length (eL ((gI (gA r3 0) 0)==3) (a8 (cH 0 (ln r3)) (oG 0 r3.length (bO (G Cb [jK (gA r3 0)]) λ_ o5=>fR (fW l0) (eV r1) (dU r2) (qo o5 0) []))) (fW l0) (eV r1) (dU r2) [ie r3]):aA):=ac
def ayx:Zb G N [aa l0,cF r1,cp r2,hY r3]=(lr ((ln r3)==0) [fW l0,eV r1,dU r2,ie r3] (a8 (cH 0 (ln r3)) (lr ((gI (gA r3 0) 0) != 15) [fW l0,eV r1,dU r2,ie r3] (a8 (cH 0 (ln r3)) (lr (nJ (gA r3 0) 8) [fW l0,eV r1,dU r2,ie r3] (a8 (((dJ 1 (ln r3))&&(dJ (ln r3) (ln r3)))&&(dJ (ln r3) (ln r3))) (bO (G Gs [ie (r3.drop 1),dp]) λ_ o7=>eL (cE o7) (jw (fW l0) (eV r1) (dU r2) (ie r3) []) (fW l0) (eV r1) (dU r2) [ie r3])))))):aA):=ac
def aAA:bG CX EE G N Jf [aa l0,cF r1,cp r2]=(eh (gI l0 4) (gR l0 2)<|bO (G Sr [aa (sT (aF wI 2 (bp (gR l0 2) (gI l0 4))) [(21,iI (gI l0 5))]),c5]) λ_ o1=>bO (Zk G N [aa (sT (aF mN 0 l0) [(6,cu (gI (gC o1 0) 0)),(7,iI (gI (gC o1 0) 1)),(8,iI (gI (gC o1 0) 2)),(9,iI (gI (gC o1 0) 3)),(10,iI (gI (gC o1 0) 4)),(11,iI (gI (gC o1 0) 5)),(12,av (gB (gC o1 0) 6)),(13,av (gB (gC o1 0) 7)),(14,av (gB (gC o1 0) 8)),(15,av (gB (gC o1 0) 9)),(16,av (gB (gC o1 0) 10)),(17,cu (gI (gC o1 0) 11)),(18,bR (gR (gC o1 0) 12)),(19,bR (gR (gC o1 0) 13)),(20,c7 (gR (gC o1 0) 14)),(21,c7 (gR (gC o1 0) 15)),(22,aw (gR (gC o1 0) 16)),(23,dv (gR (gC o1 0) 17)),(24,fO (gR (gC o1 0) 18)),(25,fV (gR (gC o1 0) 19)),(26,fy (gR (gC o1 0) 20)),(27,iI (gI (gC o1 0) 21)),(28,hY (gR o1 1)),(29,av (gB (gC o1 0) 23)),(30,av (gB (gC o1 0) 24)),(61,.ak 1),(62,.ak 2)]),cF r1,cp r2,zT (bp (gR l0 2) (gI l0 4)),jK (gC o1 0)]) λq3 o3=>bif gJ q3 then bO (G Cb [jK (gC o3 4)]) λ_ o4=>bO (Zc G N [aa (sT (aF mN 0 (gC o3 0)) w4),cF (gR o3 1),cp (gR o3 2),hY (gR o4 0)]) λ_ o6=>bO (Zb G N [aa (sT (aF mN 0 (gC o6 0)) w4),cF (gR o6 1),cp (gR o6 2),hY (gR o6 3)]) λq8 o8=>bif gJ q8 then a8 (cH 0 (ln (gR o8 3)))<|a8 (dJ 1 (ln (gR o8 3))&&dJ (ln (gR o8 3)) (ln (gR o8 3))&&dJ (ln (gR o8 3)) (ln (gR o8 3)))<|a8 (cH 0 (ln (gR o8 3)))<|a8 (cH 0 (ln (gR (gA (gR o8 3) 0) 12)))<|bO (G Je [bK (gA (gR (gA (gR o8 3) 0) 12) 0),aa (sT (aF mN 0 (gC o8 0)) [(31,cu (gI (gA (gR o8 3) 0) 0)),(32,iI (gI (gA (gR o8 3) 0) 1)),(33,iI (gI (gA (gR o8 3) 0) 2)),(34,iI (gI (gA (gR o8 3) 0) 3)),(35,iI (gI (gA (gR o8 3) 0) 4)),(36,iI (gI (gA (gR o8 3) 0) 5)),(37,av (gB (gA (gR o8 3) 0) 6)),(38,av (gB (gA (gR o8 3) 0) 7)),(39,av (gB (gA (gR o8 3) 0) 8)),(40,av (gB (gA (gR o8 3) 0) 9)),(41,av (gB (gA (gR o8 3) 0) 10)),(42,cu (gI (gA (gR o8 3) 0) 11)),(43,bR (gR (gA (gR o8 3) 0) 12)),(44,bR (gR (gA (gR o8 3) 0) 13)),(45,c7 (gR (gA (gR o8 3) 0) 14)),(46,c7 (gR (gA (gR o8 3) 0) 15)),(47,aw (gR (gA (gR o8 3) 0) 16)),(48,dv (gR (gA (gR o8 3) 0) 17)),(49,fO (gR (gA (gR o8 3) 0) 18)),(50,fV (gR (gA (gR o8 3) 0) 19)),(51,fy (gR (gA (gR o8 3) 0) 20)),(52,iI (gI (gA (gR o8 3) 0) 21)),(53,hY ((gR o8 3).drop 1)),(54,iI (gI (gA (gR (gA (gR o8 3) 0) 12) 0) 3)),(61,.ak 1),(62,.ak 2)]),cF (gR o8 1),cp (gR o8 2)]) λ_ o9=>bif gB o9 0 then eh (gI (gC o9 1) 54) (gR (gC o9 1) 0)<|bL [av (gI (bp (gR (gC o9 1) 0) (gI (gC o9 1) 54)) 0==1),aa (sT (aF mN 0 (gC o9 1)) w4),cF (gR o9 2),cp (gR o9 3)]else bL [aT,aa (sT (aF mN 0 (gC o9 1)) w4),cF (gR o9 2),cp (gR o9 3)]else bL [av (gB o8 0),aa (sT (aF mN 0 (gC o8 1)) w4),cF (gR o8 2),cp (gR o8 3)]else bL [av (gB o3 0),aa (sT (aF mN 0 (gC o3 1)) w4),cF (gR o3 2),cp (gR o3 3)]:aA):=ac
def aAz:bG CX EE G N RW [aa l0,aa l1,cF r2,cp r3]=(hZ ((gI l0 0)==2) (gT l0 14 (hZ ((gI (jk l0 14 0) 0)==1) (gT l0 14 (lj ((gI (jk l0 14 0) 1)==(gI l1 54)) (fW l1) (eV r2) (dU r3) [])) (fW l1) (eV r2) [dU r3])) (fW l1) (eV r2) [dU r3]:aA):=ac
def axM:YW G N [aa l0,cF r1,cp r2,aa l3]=(eL ((gI l3 0)==9) (gT l3 8 (fR (fW l0) (eV r1) (dU r2) (nZ l3 8 0) [])) (fW l0) (eV r1) (dU r2) [bK l3]:aA):=ac
def axL:YV G N [aa l0,cF r1,cp r2,aa l3]=(ca ((gI l3 0) != 5) (kJ (fW l0) [eV r1,dU r2,bK l3]) ((gI l3 1) != 1) (kJ (fW l0) [eV r1,dU r2,bK l3]) (fR (fW l0) (eV r1) (dU r2) (bK l3) []):aA):=ac
def axF:Mw G N [aa l0,cF r1,cp r2,aa l3,aa l4]=(bO (G Je [bK l3,fW l0,eV r1,dU r2]) λ_ o5=>hZ (dP o5) (hZ ((gI l4 0)==1) (lj (jP 0 l4 2) (qU o5) (fQ o5 2) (lA o5) [bK l3,bK l4]) (qU o5) (fQ o5 2) [lA o5,bK l3,bK l4]) (qU o5) (fQ o5 2) [lA o5,bK l3,bK l4]:aA):=ac
def aiA:zQ G N (n+1) [iI i0,hY r1,iI i2,iI i3,aa l4,cF r5,cp r6]=(eL (cH i3 i2) (eh i3 r1 (bO (G RW [aC (bp r1 i3),fW l4,eV r5,dU r6]) λ_ o1=>bif cE o1 then zQ G N n [iI i0,ie r1,iI i2,bZ i3,qU o1,fQ o1 2,lA o1]else gT (bp r1 i3) 12 (bO (YW G N [qU o1,fQ o1 2,lA o1,nZ (bp r1 i3) 12 0]) λ_ o2=>bO (YV G N [fW (bP o2),fQ o2 1,mo o2 2,bK (lI o2)]) λq3 o3=>bif gJ q3 then gT (lI o3) 8 (v8 1 (lI o3) 8 (bO (G Je [nZ (lI o3) 8 1,fW (bP o3),fQ o3 1,mo o3 2]) λ_ o4=>sW o4 0 (bO (Mw G N [qU o4,fQ o4 2,lA o4,nZ (lI o3) 8 1,nZ (lI o3) 8 0]) λ_ o6=>sW o6 0 (zQ G N n [bZ i0,ie r1,iI i2,bZ i3,gk mN (bu o6) 57 (cL (gC o6 5) 2) [k6 61 1,HA 2],fQ o6 2,lA o6]) (zQ G N n [iI i0,ie r1,iI i2,bZ i3,qU o6,fQ o6 2,lA o6])) (bO (Mw G N [qU o4,fQ o4 2,lA o4,nZ (lI o3) 8 0,nZ (lI o3) 8 1]) λ_ o7=>sW o7 0 (zQ G N n [bZ i0,ie r1,iI i2,bZ i3,gk mN (bu o7) 57 (cL (gC o7 5) 2) [k6 61 1,HA 2],fQ o7 2,lA o7]) (zQ G N n [iI i0,ie r1,iI i2,bZ i3,qU o7,fQ o7 2,lA o7]))))else zQ G N n [iI i0,ie r1,iI i2,bZ i3,fW (bP o3),fQ o3 1,mo o3 2]))) (iI i0) (fW l4) (eV r5) [dU r6]:aA):=ac
def azp:bG CX EE G N RG [aa l0,cF r1,cp r2]=(bO (zQ G N N (dS (qo l0 53) (jx l0 53) (dS (fW l0) (eV r1) [dU r2]))) λ_ o8=>hZ ((gI o8 0)==1) (hZ (jP 1 (bu o8) 57) (lj (dJ (gI (bu o8) 57) 2147483647) (qU o8) (fQ o8 2) (lA o8) []) (qU o8) (fQ o8 2) [lA o8]) (qU o8) (fQ o8 2) [lA o8]:aA):=ac
def ayD:bG CX EE G N RC [aa l0,aa l1,aa l2,aa l3,cF r4,cp r5]=(bO (G RW [aC l0,fW l3,eV r4,dU r5]) λ_ o1=>eL (dP o1) (gT l0 12 (eL ((gI (jk l0 12 0) 0)==1) (gT l0 12 (fR (di (.ptr 2 0 0)) (di (iE ((gI l2 0)+1))) (gk mN (bu o1) 59 (cL (jk l0 12 0) 2) [k6 61 3,HA 4]) (fQ o1 2) [lA o1])) (di (.ptr 2 0 0)) (gX l2) (iZ (bu o1) 3 4) [fQ o1 2,lA o1])) (di (.ptr 2 0 0)) (gX l2) (iZ (bu o1) 3 4) [fQ o1 2,lA o1]:aA):=ac
def air:Mv G N (n+1) [dv r0,iI i1,iI i2,aa l3,cF r4,cp r5,aa l6,aa l7]=(eL (cH i2 i1) (eh i2 r0 (bO (G RC [aC (bp r0 i2),di (.ptr 2 0 0),gX l7,iZ l3 3 4,eV r4,dU r5]) λ_ o2=>Mv G N n [da r0,iI i1,bZ i2,fW (dN o2),fQ o2 3,mo o2 4,di (.ptr 0 0 0),qq o2])) (fW l3) (eV r4) (dU r5) [di (.ptr 0 0 0),gX l7]:aA):=ac
def aix:MA G N (n+1) [hY r0,iI i1,iI i2,aa l3,cF r4,cp r5,aa l6,aa l7]=(eL (cH i2 i1) (eh i2 r0 (bO (G RC [aC (bp r0 i2),di (.ptr 2 0 0),gX l7,iZ l3 3 4,eV r4,dU r5]) λ_ o1=>bif (gI (bp r0 i2) 0)==3 then bO (Mv G N N ((pB (bp r0 i2) 17)::(jx (bp r0 i2) 17)::dS (fW (dN o1)) (fQ o1 3) [mo o1 4,di (.ptr 0 0 0),qq o1])) λ_ o3=>MA G N n [ie r0,iI i1,bZ i2,fW (bP o3),fQ o3 1,mo o3 2,di (.ptr 0 0 0),gX (fZ o3)]else MA G N n [ie r0,iI i1,bZ i2,fW (dN o1),fQ o1 3,mo o1 4,di (.ptr 0 0 0),qq o1])) (fW l3) (eV r4) (dU r5) [di (.ptr 0 0 0),gX l7]:aA):=ac
end
noncomputable section
variable {G:Nat->aq->Option UO} {N n:Nat} {a0:AV} {i0 i1 i2 i3:Int} {l0 l1 l2 l3 l4 l5 l6 l7:aq} {r0 r1 r2 r3 r4 r5 r6 r7 r8 r9:aE}
def azq:bG CX EE G N RH [aa l0,cF r1,cp r2]=(bO (MA G N N (qo l0 28::jx l0 28::dS (fW l0) (eV r1) [dU r2,di (.ptr 0 0 0),di Ai])) λ_ o4=>hZ ((gI (fZ o4) 0)==1) (hZ (jP 0 (bP o4) 59) (lj (dJ (gI (bP o4) 59) 2147483647) (fW (bP o4)) (fQ o4 1) (mo o4 2) []) (fW (bP o4)) (fQ o4 1) [mo o4 2]) (fW (bP o4)) (fQ o4 1) [mo o4 2]:aA):=ac
def ayW:bG CX EE G N RF [aa l0,aa l1,cF r2,cp r3]=(hZ ((gI l0 0) != 3) (lj ((gI l0 1)==(gI l1 54)) (fW l1) (eV r2) (dU r3) []) (fW l1) (eV r2) [dU r3]:aA):=ac
def ahD:Mo G N (n+1) [c7 r0,iI i1,iI i2,aa l3,cF r4,cp r5]=(mB i2 i1 r0 (bO (G RF [fg (bp r0 i2),fW l3,eV r4,dU r5]) λ_ o1=>nj (dP o1) i2 (qU o1) [fQ o1 2,lA o1] (Mo G N n [cT r0,iI i1,bZ i2,qU o1,fQ o1 2,lA o1])) (fW l3) [eV r4,dU r5]:aA):=ac
def ahJ:bG CX EE G N Yy [c7 r0,aa l1,cF r2,cp r3]=(bO (Mo G N N (cT r0::pS r0::dS (fW l1) (eV r2) [dU r3])) λq2 o2=>fS q2 (fR (eU o2) (qU o2) (fQ o2 2) (lA o2) []) (iI (-1)) [fW (bP o2),fQ o2 1,mo o2 2]:aA):=ac
def awB:bG CX EE G N Mn [c7 r0,aa l1,cF r2,cp r3]=(bO (G Yy [cT r0,fW l1,eV r2,dU r3]) λ_ o1=>lj (vd o1) (qU o1) (fQ o1 2) (lA o1) []:aA):=ac
def ayf:Y4 G N [aa l0,aa l1,aa l2,cF r3,cp r4,aa l5]=(ca ((gI l5 0)==6) (ca ((gI l5 2)==(gI l2 54)) (fR eD (di (.ptr 2 0 0)) (gX l1) (iZ l2 3 4) [eV r3,dU r4,jK l5]) ((gI l5 0)==16) (bO (G Mn [eW xw l5 15,fW l2,eV r3,dU r4]) λ_ o1=>oz o1 (di (.ptr 2 0 0)) (gX l1) (iZ (bu o1) 3 4) [fQ o1 2,lA o1,jK l5]) (fR dp (di (.ptr 2 0 0)) (gX l1) (iZ l2 3 4) [eV r3,dU r4,jK l5])) ((gI l5 0)==16) (bO (G Mn [eW xw l5 15,fW l2,eV r3,dU r4]) λ_ o2=>oz o2 (di (.ptr 2 0 0)) (gX l1) (iZ (bu o2) 3 4) [fQ o2 2,lA o2,jK l5]) (fR dp (di (.ptr 2 0 0)) (gX l1) (iZ l2 3 4) [eV r3,dU r4,jK l5]):aA):=ac
def ayY:bG CX EE G N Zh [aa l0,aa l1,aa l2,aa l3,cF r4,cp r5]=(bO (Y4 G N [di (.ptr 2 0 0),gX l2,iZ l3 3 4,eV r4,dU r5,jK l0]) λ_ o3=>ca (dP o3) (fR (di (.ptr 2 0 0)) (di (iE ((gI (dN o3) 0)+1))) (iZ (lI o3) 3 4) (fQ o3 4) [mo o3 5]) (ig 0 (gC o3 6) 14) (gT (gC o3 6) 14 (bO (G RF [fg (jk (gC o3 6) 14 0),fW (lI o3),fQ o3 4,mo o3 5]) λ_ o4=>eL (dP o4) (fR (di (.ptr 2 0 0)) (di (iE ((gI (dN o3) 0)+1))) (iZ (bu o4) 3 4) (fQ o4 2) [lA o4]) (di (.ptr 2 0 0)) (gX (dN o3)) (iZ (bu o4) 3 4) [fQ o4 2,lA o4])) (fR (di (.ptr 2 0 0)) (gX (dN o3)) (iZ (lI o3) 3 4) (fQ o3 4) [mo o3 5]):aA):=ac
def ahF:Ri G N (n+1) [iI i0,iI i1,aa l2,aa l3,aa l4,cF r5,cp r6,hY r7]=(eL (cH i1 i0) (jN i1 r7 i1.toNat r7.length (bO (G Rk [jK (bp r7 i1),di (.ptr 2 0 0),gX l3,iZ l4 3 4,eV r5,dU r6]) λ_ o3=>Ri G N n [iI i0,bZ i1,di (.ptr 2 0 0),qq o3,iZ (dN o3) 3 4,fQ o3 3,mo o3 4,ie r7])) (di (.ptr 2 0 0)) (gX l3) (iZ l4 3 4) [eV r5,dU r6,ie r7]:aA):=ac
def awM:bG CX EE G N Rk [aa l0,aa l1,aa l2,aa l3,cF r4,cp r5]=(bO (G Zh [jK l0,di (.ptr 2 0 0),gX l2,iZ l3 3 4,eV r4,dU r5]) λ_ o1=>bO (G Cb [jK l0]) λ_ o2=>bO (Ri G N N (jx o2 0::dS (di (.ptr 2 0 0)) (qq o1) [iZ (dN o1) 3 4,fQ o1 3,mo o1 4,qo o2 0])) λ_ o4=>fR (di (.ptr 2 0 0)) (qq o4) (iZ (dN o4) 3 4) (fQ o4 3) [mo o4 4]:aA):=ac
def ayX:bG CX EE G N Zg [aa l0,aa l1,aa l2,cF r3,cp r4]=(bO (G wH [cM l0 4,cL l2 54]) λ_ o1=>oz o1 (di (.ptr 1 0 0)) (iZ l2 2 3) (eV r3) [dU r4]:aA):=ac
def ahH:Mp G N (n+1) [dg r0,iI i1,iI i2,aa l3,aa l4,cF r5,cp r6]=(mB i2 i1 r0 (bO (G Zg [lG (bp r0 i2),di (.ptr 1 0 0),iZ l4 2 3,eV r5,dU r6]) λ_ o1=>nj (dP o1) i2 (di (.ptr 1 0 0)) [iZ (dN o1) 2 3,fQ o1 3,mo o1 4] (Mp G N n [pb r0,iI i1,bZ i2,di (.ptr 1 0 0),iZ (dN o1) 2 3,fQ o1 3,mo o1 4])) (di (.ptr 1 0 0)) [iZ l4 2 3,eV r5,dU r6]:aA):=ac
def ahN:bG CX EE G N YB [dg r0,aa l1,aa l2,cF r3,cp r4]=(bO (Mp G N N (pb r0::pS r0::dS (di (.ptr 1 0 0)) (iZ l2 2 3) [eV r3,dU r4])) λq2 o2=>fS q2 (fR (eU o2) (di (.ptr 1 0 0)) (iZ (dN o2) 2 3) (fQ o2 3) [mo o2 4]) (iI (-1)) [di (.ptr 1 0 0),iZ (bu o2) 2 3,fQ o2 2,lA o2]:aA):=ac
def awG:bG CX EE G N Yx [dg r0,aa l1,aa l2,cF r3,cp r4]=(bO (G YB [pb r0,di (.ptr 1 0 0),iZ l2 2 3,eV r3,dU r4]) λ_ o1=>lj (vd o1) (di (.ptr 1 0 0)) (iZ (dN o1) 2 3) (fQ o1 3) [mo o1 4]:aA):=ac
def aiE:RE G N (n+1) [ng r0,iI i1,iI i2,aa l3,cF r4,cp r5,aa l6,aa l7]=(eL (cH i2 i1) (eh i2 r0 (bO (G Rk [XB wI 2 (bp r0 i2) [(21,Ai)],di (.ptr 2 0 0),gX l7,iZ l3 3 4,eV r4,dU r5]) λ_ o1=>RE G N n [ng r0,iI i1,bZ i2,fW (dN o1),fQ o1 3,mo o1 4,di (.ptr 0 0 0),qq o1])) (fW l3) (eV r4) (dU r5) [di (.ptr 0 0 0),gX l7]:aA):=ac
def azN:bG CX EE G N RR [aa l0,cF r1,cp r2]=(bO (RE G N N (eW Eg l0 2::jx l0 2::dS (fW l0) (eV r1) [dU r2,di (.ptr 0 0 0),di Ai])) λ_ o2=>hZ ((gI (fZ o2) 0)==2) (bO (G Yx [lK (bP o2) 0,di (.ptr 1 0 0),iZ (bP o2) 2 3,fQ o2 1,mo o2 2]) λ_ o3=>lj (cE o3) (fW (dN o3)) (fQ o3 3) (mo o3 4) []) (fW (bP o2)) (fQ o2 1) [mo o2 2]:aA):=ac
def ayE:bG CX EE G N RD [aa l0,cF r1,cp r2]=(dG (gI l0 4) l0 2 (eL ((gI (jO l0 2 l0 4) 23)==0) (lj (jP (gI l0 57) l0 57) (gk mN l0 55 (cL l0 4) [(56,eU (jO l0 2 l0 4)),(58,cL l0 57),k6 61 1,HA 2]) (eV r1) (dU r2) []) (av (jP (gI (jO l0 2 l0 4) 23) l0 57)) (gk mN l0 55 (cL l0 4) [(56,eU (jO l0 2 l0 4)),(58,cL (jO l0 2 l0 4) 23),k6 61 1,HA 2]) (eV r1) [dU r2]):aA):=ac
def azo:bG CX EE G N Zn [aa l0,aa l1,aa l2,aa l3,cp r4,aa l5,cF r6,cp r7]=(bif gI l0 0==20 then a8 (qF ((gI l0 4).toNat) (r4.length)&&true&&(gV (bp r4 (gI l0 4)) 0).wZ)<|eh (gI l0 4) r4<|a8 (qF ((gI l0 4).toNat) (r4.length))<|a8 (Nat.beq ((gI l0 4).toNat) ((gI l0 4).toNat))<|a8 (XN ((((gV (bp r4 (gI l0 4)) 0).rows).length +1)*8) 140737488355328)<|eh (gI l0 4) r4<|a8 (qF ((gI l0 4).toNat) (r4.length)&&(Nat.beq ((gI l0 4).toNat) ((gI l0 4).toNat)&&true))<|bif gB l2 0 then eh (gI l0 4) (gR l5 3)<|bL [aa [.ak 3],aa [av (dJ (gI l5 56) (gI (bp (gR l5 3) (gI l0 4)) 0))],aa [.ptr 4 0 0],cp (r4.set ((gI l0 4).toNat) ((gA r4 ((gI l0 4).toNat)).set 0 (.sub tI (((gV (bp r4 (gI l0 4)) 0).rows)++(([[iI (gI l0 21)]]:aE)))))),aa (sT (aF mN 0 l5) Wl),cF r6,cp r7]else bL [aa [.ak 3],aa [aT],aa [.ptr 4 0 0],cp (r4.set ((gI l0 4).toNat) ((gA r4 ((gI l0 4).toNat)).set 0 (.sub tI (((gV (bp r4 (gI l0 4)) 0).rows)++(([[iI (gI l0 21)]]:aE)))))),aa (sT (aF mN 0 l5) Wl),cF r6,cp r7]else bL [aa [.ak 3],aa [av (gB l2 0)],aa [.ptr 4 0 0],cp r4,aa (sT (aF mN 0 l5) Wl),cF r6,cp r7]:aA):=ac
def ahI:Rj G N (n+1) [iI i0,iI i1,aa l2,aa l3,aa l4,cp r5,aa l6,cF r7,cp r8,hY r9]=(eL (cH i1 i0) (jN i1 r9 i1.toNat r9.length (bO (G Rm [jK (bp r9 i1),lU 3,qV l3,di (.ptr 4 0 0),dU r5,iZ l6 5 6,eV r7,dU r8]) λ_ o3=>Rj G N n [iI i0,bZ i1,lU 3,qV (bu o3),di (.ptr 4 0 0),lA o3,iZ (fZ o3) 5 6,fQ o3 5,mo o3 6,ie r9])) (lU 3) (qV l3) (di (.ptr 4 0 0)) [dU r5,iZ l6 5 6,eV r7,dU r8,ie r9]:aA):=ac
def awQ:bG CX EE G N Rm [aa l0,aa l1,aa l2,aa l3,cp r4,aa l5,cF r6,cp r7]=(bO (G Zn [jK l0,lU 3,qV l2,di (.ptr 4 0 0),dU r4,iZ l5 5 6,eV r6,dU r7]) λ_ o1=>bO (G Cb [jK l0]) λ_ o2=>bO (Rj G N N (jx o2 0::dS (lU 3) (qV (bu o1)) [di (.ptr 4 0 0),lA o1,iZ (fZ o1) 5 6,fQ o1 5,mo o1 6,qo o2 0])) λ_ o4=>fR (lU 3) (qV (bu o4)) (di (.ptr 4 0 0)) (lA o4) [iZ (fZ o4) 5 6,fQ o4 5,mo o4 6]:aA):=ac
def aiD:MD G N (n+1) [hY r0,iI i1,iI i2,aa l3,aa l4,aa l5,aa l6,cp r7,cF r8,cp r9]=(eL (cH i2 i1) (eh i2 r0 (bO (G Rm [jK (bp r0 i2),lU 3,qV l5,di (.ptr 4 0 0),dU r7,iZ l6 5 6,eV r8,dU r9]) λ_ o1=>MD G N n [ie r0,iI i1,bZ i2,di (.ptr 3 0 0),lU 4,qV (bu o1),iZ (fZ o1) 5 6,lA o1,fQ o1 5,mo o1 6])) (di (.ptr 3 0 0)) (lU 4) (qV l5) [iZ l6 5 6,dU r7,eV r8,dU r9]:aA):=ac
def ayS:Zj G N [aa l0,aa l1,aa l2,aa l3,cp r4,cF r5,cp r6]=(bO (MD G N N (qo l3 53::jx l3 53::dS (di (.ptr 3 0 0)) (lU 4) [qV l2,iZ l3 5 6,dU r4,eV r5,dU r6])) λ_ o2=>fR (di (.ptr 3 0 0)) (lU 4) (qV (dN o2)) (iZ (lI o2) 5 6) [mo o2 4,fQ o2 5,mo o2 6]:aA):=ac
def aiC:I8 G N (n+1) [iI i0,iI i1,aa l2,cp r3,aa l4,cF r5,cp r6]=(eL (cH i1 i0) (jN i1 r3 i1.toNat r3.length (kg 0 (ja (bp r3 i1) 0) (o0 ((r5.length+1)*16) (o0 ((r6.length+1)*24) (I8 G N n [iI i0,bZ i1,di (.ptr 2 0 0),dU r3,iZ l4 3 4,eV (r5++([(iI i1::nv [])]:aE)),dU (r6++([[iD (bp r3 i1)]]:aE))]))) (I8 G N n [iI i0,bZ i1,di (.ptr 2 0 0),dU r3,iZ l4 3 4,eV r5,dU r6]))) (di (.ptr 2 0 0)) (dU r3) (iZ l4 3 4) [eV r5,dU r6]:aA):=ac
def aAx:bG CX EE G N RV [aa l0,cF r1,cp r2]=(a8 (dJ 0 (ln (gR l0 3))&&dJ (ln (gR l0 3)) (ln (gR l0 3))&&dJ ((ln (gR l0 3))*24) 140737488355328)<|bO (Zj G N [aa [.ptr 3 0 0],aa [.ak 4],aa [c5],aa (sT (aF mN 0 l0) Wl),cp (List.replicate ((ln (gR l0 3)).toNat) ([.sub tI ([])]:Row)),cF r1,cp r2]) λ_ o3=>bO (I8 G N N [iI (ln ((gR o3 4).map (λr=>r.map ah.AV.yl))),iI 0,aa [.ptr 2 0 0],cp ((gR o3 4).map (λr=>r.map ah.AV.yl)),aa (sT (aF mN 0 (gC o3 3)) af4),cF (gR o3 5),cp (gR o3 6)]) λ_ o4=>bL [av (gB (gC o3 2) 0),aa (sT (aF mN 0 (gC o4 2)) af4),cF (gR o4 3),cp (gR o4 4)]:aA):=ac
def ajk:Cd G N (n+1) [iI i0,ng r1,iI i2,iI i3,aa l4,sg r5]=(mB i3 i2 r1 (kg 0 i3 (bO (G Jf [oB (lK l4 0) l4 (eW Eg l4 2::eW JU l4 3::iI i3::iI i0::ke 0::uo (dS dp dp (dp::dp::dp::ke 0::(bQ [])::(bQ [])::(cT [])::(cT [])::eM::(da [])::(gj [])::(gG [])::(gL [])::dS (ie []) dp (dp::ke 0::iM (nv (iM (dp::dp::dp::dp::dp::ke 0::(bQ [])::(bQ [])::(cT [])::(cT [])::eM::(da [])::(gj [])::(gG [])::(gL [])::nF (ie []) (iM (uo (dS (.ak 1) (.ak 2) [])))))))))),eV dL,dU dL]) λ_ o5=>nj (cE o5) 370 (cz l4) [su dL] (bO (G RG [qU o5,fQ o5 2,lA o5]) λ_ o6=>nj (cE o6) 370 (cz l4) [su dL] (bO (G RH [qU o6,fQ o6 2,lA o6]) λ_ o7=>nj (cE o7) 370 (cz l4) [su dL] (bO (G RR [qU o7,fQ o7 2,lA o7]) λ_ o8=>nj (cE o8) 370 (cz l4) [su dL] (bO (G RD [qU o8,fQ o8 2,lA o8]) λ_ o9=>nj (cE o9) 370 (cz l4) [su dL] (bO (G RV [qU o9,fQ o9 2,lA o9]) λ_ cO=>nj (cE cO) 371 (cz l4) [su dL] (o0 ((r5.length+1)*8) (bO (G yN [pQ 2 (bp r1 i3)]) λ_ dQ=>Cd G N n [iE (i0+(gI dQ 0)),ng r1,iI i2,bZ i3,cz l4,su (r5++([[.iO 102 (sT (aF aah 0 (bu cO)) [(61,fQ cO 2),(62,lA cO)]) 0]]:aE))])))))))) (bO (G yN [pQ 2 (bp r1 i3)]) λ_ cq=>Cd G N n [iE (i0+(gI cq 0)),ng r1,iI i2,bZ i3,cz l4,su r5])) (cz l4) [su r5]:aA):=ac
def akH:bG CX EE G N Nr [aa l0]=(bO (G xA [cz l0]) λ_ o1=>nj (cE o1) 2 (su dL) [] (gT l0 2 (bO (G Sr [XB wI 2 (jk l0 2 0) [(21,Ai)],dp]) λ_ o2=>nj (gB (bP o2) 24) 370 (su dL) [] (bO (G Gs [qo o2 1,dp]) λ_ o3=>nj (cE o3) 370 (su dL) [] (bO (G MC [jK (bP o2),eD]) λ_ o4=>ca (cE o4) (dh (iI 370) (su dL)) ((ln (gR l0 2))==1) (dh (iI 370) (su dL)) (bO (Cd G N N (dS (eW Eg l0 2) (jx l0 2) (dS (cz l0) (su dL) []))) λAw fr=>fS Aw (dh (eU fr) (eW M3 fr 2)) Ai [eW M3 fr 1]))))):aA):=ac
def ajm:Jl G N (n+1) [iI i0,iI i1,sg r2,mg r3]=(fN (cH i1 i0) (jN i1 r2 i1.toNat r2.length (K7 (gV (bp r2 i1) 0) 102 λrI2=>o0 ((r3.length+1)*72) (Jl G N n [iI i0,bZ i1,su r2,nY (r3++([aF S3 55 rI2]:aE))]))) (su r2) (nY r3):aA):=ac
def akq:bG CX EE G N JC [aa l0]=(bO (G Nr [cz l0]) λ_ o1=>bO (Jl G N N (jx o1 1::dS (eW M3 o1 1) (nY dL) [])) λ_ o2=>dh (eU o1) (eW zU o2 1):aA):=ac
def ai2:Gf G N (n+1) [a0,cp r1,iI i2,iI i3,lP r4]=(lu (cH i3 i2) (eh i3 r1 (K7 a0 102 λrI6=>o0 ((r4.length+1)*40) (Gf G N n [.iO 102 rI6 0,dU r1,iI i2,bZ i3,lP (r4++([[cL rI6 4,iI i3,iD (bp r1 i3)]]:aE))]))) (lP r4) []:aA):=ac
end
noncomputable section
variable {G:Nat->aq->Option UO} {N n:Nat} {b1:Bool} {i0 i1 i2 i3:Int} {l0 l1 l2 l3:aq} {r0 r1 r2 r3 r4 r5:aE}
def ajl:Jk G N (n+1) [iI i0,iI i1,sg r2,lP r3]=(fN (cH i1 i0) (jN i1 r2 i1.toNat r2.length (K7 (gV (bp r2 i1) 0) 102 λH9=>o0 ((r3.length+([[cL H9 4,iI (-1),ba ([[cL H9 52]]:aE)]]:aE).length)*40) (bO (Gf G N N (.iO 102 H9 0::mo H9 62::jx H9 62::nF (lP (r3++([[cL H9 4,iI (-1),ba ([[cL H9 52]]:aE)]]:aE))) [])) λ_ o2=>Jk G N n [iI i0,bZ i1,su r2,eW Gx o2 0]))) (su r2) (lP r3):aA):=ac
def akp:bG CX EE G N JB [aa l0]=(bO (G Nr [cz l0]) λ_ o1=>bO (Jk G N N (jx o1 1::dS (eW M3 o1 1) (lP dL) [])) λ_ o3=>dh (eU o1) (eW Gx o3 1):aA):=ac
def aIY:bG CX EE G N aci [aa l0,iI i1]=(bO (G JC [cz l0]) λ_ o1=>bO (G JB [cz l0]) λ_ o2=>gU ((aU ((ln (gR o1 1))+(ln (gR o2 1))))==0) (kc (i1==(gI o1 0)) (av (i1==(gI o2 0))) [] fm):aA):=ac
def akd:No G N (n+1) [aw r0,iI i1,iI i2,iI i3]=(kg i3 (ln r0) (eh i3 r0 (kg (lJ r0 i3) i1 fm (eh i3 r0 (oZ i2 (lJ r0 i3) fm (cH 0 i3) (eh i3 r0 (eh (aU (i3- 1)) r0 (pU (dJ (lJ r0 i3) (lJ r0 (aU (i3- 1)))) (No G N n [ba r0,iI i1,iI i2,bZ i3])))) (No G N n [ba r0,iI i1,iI i2,bZ i3]))))) (oo []):aA):=ac
def aIa:bG CX EE G N JO [aw r0,iI i1,iI i2]=(bO (No G N N (ba r0::iI i1::iI i2::nv [])) λq1 o1=>kc (gJ q1) (eK o1) [] cV:aA):=ac
def aGy:ak8 G N [aa l0]=(oZ (mq l0) 1 (iU (lG l0)) (cH 16384 (mq l0)) (iU (lG l0)) (j8 (lG l0)):aA):=ac
def aFq:akM G N [dg r0,aa l1]=(ca ((gI l1 0) != 1) (iU (lG l1)) ((gI l1 1) != 0) (iU (lG l1)) (lr ((gI l1 2) != 0) [lG l1] (bO (G JO (cM l1 4::nF (iE ((ln r0)- 1)) [])) λ_ o2=>lu (cE o2) (iU (lG l1)) (lG l1) [])):aA):=ac
def ajT:Sw G N (n+1) [dg r0,iI i1,aa l2]=(nI i1 (ja l2 4) (dG i1 l2 4 (eh (nq l2 4 i1) r0 (jS (gB (bp r0 (nq l2 4 i1)) 3) (lG l2) [] (dG i1 l2 4 (eh (nq l2 4 i1) r0 (jS ((gI (bp r0 (nq l2 4 i1)) 0) != 1) (lG l2) [] (Sw G N n [pb r0,bZ i1,lG l2]))))))) (lG l2) []:aA):=ac
def aIb:bG CX EE G N abZ [dg r0,aa l1]=(bO (ak8 G N [lG l1]) λq1 o1=>iL q1 (bif nJ (bP o1) 3 then gU ((ln (gR (bP o1) 4))==0) (gU (jP (-2147483648) (bP o1) 1) (kc (dJ (gI (bP o1) 2) 2147483647) (av (jP (jF (bP o1)) (bP o1) 2)) [] fm))else bO (akM G N [pb r0,lG (bP o1)]) λq3 o3=>iL q3 (bO (Sw G N N (pb r0::nF (lG (bP o3)) [])) λq4 o4=>kc (gJ q4) (eK o4) [] cV) o3 []) o1 []:aA):=ac
def aFx:akN G N [dg r0]=(oZ (ln r0) 1 agX (cH 2048 (ln r0)) agX (bL []):aA):=ac
def ajD:Sp G N (n+1) [dg r0,iI i1,iI i2]=(mB i2 (ln r0) r0 (bO (G abZ [pb r0,lG (bp r0 i2)]) λ_ o2=>pU (cE o2) (eh i2 r0 (Sp G N n [pb r0,iE (i1+(gI (bp r0 i2) 0)),bZ i2]))) (iI i1) []:aA):=ac
def aHu:bG CX EE G N abE [dg r0]=(bO (akN G N [pb r0]) λq1 o1=>iL q1 (bO (Sp G N N (pb r0::iM [])) λq3 o3=>fS q3 (nC o3) (av (dJ (mq o3) 16384)) []) o1 []:aA):=ac
def alL:Tw G N (n+1) [aw r0,iI i1,iI i2]=(kg i2 (ln r0) (eh i2 r0 (bif (gI (bp r0 i2) 0)==i1 then cV else Tw G N n [ba r0,iI i1,bZ i2])) (oo []):aA):=ac
def aLo:bG CX EE G N xX [aw r0,iI i1]=(bO (Tw G N N (ba r0::iI i1::nv [])) λq1 o1=>kc (gJ q1) (eK o1) [] fm:aA):=ac
def aj8:SE G N (n+1) [aw r0,iI i1,iI i2,iI i3]=(kg i3 (ln r0) (eh i3 r0 (kg (lJ r0 i3) i1 fm (eh i3 r0 (kg i2 (lJ r0 i3) fm (a8 (((lR i3)&&(dJ i3 (ln r0)))&&(dJ (ln r0) (ln r0))) (eh i3 r0 (bO (G xX [ba (r0.take i3.toNat),eU (bp r0 i3)]) λ_ o1=>pU (dP o1) (SE G N n [ba r0,iI i1,iI i2,bZ i3])))))))) (oo []):aA):=ac
def aH7:bG CX EE G N Te [aw r0,iI i1,iI i2]=(bO (SE G N N (ba r0::iI i1::iI i2::nv [])) λq2 o2=>kc (gJ q2) (eK o2) [] cV:aA):=ac
def akz:SW G N (n+1) [iI i0,aa l1,sN r2]=(fN (ig i0 l1 0) (o0 ((r2.length+1)*24) (SW G N n [bZ i0,cz l1,mS (r2++([[iI (-1),iI (-1),iI (-1)]]:aE))])) (cz l1) (mS r2):aA):=ac
def aGx:abv G N [aa l0,sN r1]=(bO (SW G N N (dS (cz l0) (mS r1) [])) λ_ o1=>dh (nD o1) (nW o1 1):aA):=ac
def ajC:M7 G N (n+1) [iI i0,iI i1,aa l2,sN r3]=(dG i0 l2 3 (nI i1 (ja (dD l2 3 i0) 1) (dG i0 l2 3 (dG i1 (dD l2 3 i0) 1 (jN (nq (dD l2 3 i0) 1 i1) r3 (gI (dD (dD l2 3 i0) 1 i1) 0).toNat r3.length (jS (lR (lJ r3 (nq (dD l2 3 i0) 1 i1))) (cz l2) [mS r3,mS dL] (jN (nq (dD l2 3 i0) 1 i1) r3 (gI (dD (dD l2 3 i0) 1 i1) 0).toNat r3.length (M7 G N n [iI i0,bZ i1,cz l2,mS (r3.set (gI (dD (dD l2 3 i0) 1 i1) 0).toNat (setAt (bp r3 (nq (dD l2 3 i0) 1 i1)) 0 [iI i0]))])))))) (cz l2) [mS r3]):aA):=ac
def akc:Nn G N (n+1) [iI i0,aa l1,sN r2]=(nI i0 (ja l1 3) (dG i0 l1 3 (bO (G JO ((cM (dD l1 3 i0) 1)::nF (iE ((ln (gR l1 0))- 1)) [])) λ_ o3=>jS (cE o3) (cz l1) [mS r2,mS dL] (bO (M7 G N N (iI i0::dS (cz l1) (mS r2) [])) λq4 o4=>lq (gJ q4) (eK o4) (rL o4) [nW o4 2,nW o4 3] (Nn G N n [bZ i0,nD o4,nW o4 1])))) (cz l1) [mS r2]:aA):=ac
def aGw:ak7 G N [aa l0,sN r1]=(bO (Nn G N N (dS (cz l0) (mS r1) [])) λq5 o5=>fS q5 (rJ o5 [rL o5,nW o5 2,nW o5 3]) (nD o5) [nW o5 1]:aA):=ac
def aDc:Sn G N (n+1) [iI i0,iI i1,aa l2,sN r3]=(dG i0 l2 2 (nI i1 (ja (dD l2 2 i0) 1) (dG i0 l2 2 (dG i1 (dD l2 2 i0) 1 (bO (aCJ G N [cz l2,nX (dD (dD l2 2 i0) 1 i1) 1 []]) λq9 o9=>iL q9 (a8 (Ir (gR (bu o9) 0)) (a8 (Im (([]:aE)++(gR (bu o9) 0)) (gR (bu o9) 1)) (bO (aCI G N N (iI i0::iI i1::dS (nD o9) (mS r3) [ba ((([]:aE)++(gR (bu o9) 0))++(gR (bu o9) 1))])) λuJ cq=>lq (gJ uJ) (eK cq) (rL cq) [nW cq 2,nW cq 4] (Sn G N n [iI i0,bZ i1,nD cq,nW cq 1])))) o9 [rL o9,mS r3,nW o9 3]))) (cz l2) [mS r3]):aA):=ac
def akb:SI G N (n+1) [iI i0,aa l1,sN r2]=(nI i0 (ja l1 2) (bO (Sn G N N (iI i0::dS (cz l1) (mS r2) [])) λAw fr=>lq (gJ Aw) (eK fr) (rL fr) [nW fr 2,nW fr 3] (SI G N n [bZ i0,nD fr,nW fr 1])) (cz l1) [mS r2]:aA):=ac
def aGv:ak6 G N [aa l0,sN r1]=(bO (SI G N N (dS (cz l0) (mS r1) [])) λAv dr=>fS Av (rJ dr [rL dr,nW dr 2,nW dr 3]) (nD dr) [nW dr 1]:aA):=ac
end
noncomputable section
variable {G:Nat->aq->Option UO} {N n:Nat} {i0 i1 i2 i3:Int} {l0 l1 l2 l3 l4:aq} {r0 r1 r2 r3 r4 r5:aE}
def ajB:M6 G N (n+1) [iI i0,iI i1,aa l2,sN r3]=(dG i0 l2 0 (nI i1 (ja (dD l2 0 i0) 4) (dG i0 l2 0 (dG i1 (dD l2 0 i0) 4 (jN (nq (dD l2 0 i0) 4 i1) r3 (gI (dD (dD l2 0 i0) 4 i1) 0).toNat r3.length (jS (lR (lJ r3 (nq (dD l2 0 i0) 4 i1))) (cz l2) [mS r3,mS dL] (jN (nq (dD l2 0 i0) 4 i1) r3 (gI (dD (dD l2 0 i0) 4 i1) 0).toNat r3.length (jS (jP 0 (bp r3 (nq (dD l2 0 i0) 4 i1)) 1) (cz l2) [mS r3,mS dL] (M6 G N n [iI i0,bZ i1,cz l2,mS r3]))))))) (cz l2) [mS r3]):aA):=ac
def aka:SH G N (n+1) [iI i0,aa l1,sN r2]=(nI i0 (ja l1 0) (bO (M6 G N N (iI i0::dS (cz l1) (mS r2) [])) λIg jU=>lq (gJ Ig) (eK jU) (rL jU) [nW jU 2,nW jU 3] (SH G N n [bZ i0,nD jU,nW jU 1])) (cz l1) [mS r2]:aA):=ac
def aIR:bG CX EE G N acf [aa l0]=(bO (abv G N [cz l0,mS dL]) λ_ o2=>bO (ak7 G N [nD o2,nW o2 1]) λq6 o6=>iL q6 (bO (ak6 G N [nD o6,nW o6 1]) λyt dI=>iL yt (bO (SH G N N (dS (nD dI) (nW dI 1) [])) λAu dO=>fS Au (dh (eK dO) (nW dO 3)) eD [nW dO 1]) dI [nW dI 3]) o6 [nW o6 3]:aA):=ac
def aH3:alW G N [iI i0,iI i1]=(oZ i0 1 (kJ (iI (-1)) []) (cH i1 1) (kJ (iI (-1)) []) (bL []):aA):=ac
def akx:SV G N (n+1) [iI i0,iI i1,iI i2,iI i3,aa l4]=(nI i3 (ja l4 8) (dG i3 l4 8 (bO (G TF [bK (dD l4 8 i3),iE (i0- i2),iE (i1- 1)]) λ_ o2=>nj (cH (mq o2) 0) (-1) (bK l4) [] (SV G N n [iI i0,iI i1,iE (i2+(gI o2 0)),bZ i3,bK l4]))) (iI i2) [bK l4]:aA):=ac
def aJv:bG CX EE G N TF [aa l0,iI i1,iI i2]=(bO (alW G N [iI i1,iI i2]) λq1 o1=>fS q1 (bO (SV G N N (iI i1::iI i2::iI 1::nF (bK l0) [])) λq3 o3=>fS q3 (j8 (eU o3)) (eU o3) []) (eU o1) []:aA):=ac
def aEd:aaS G N [cu i0]=(ca (i0==1) cV (i0==11) cV (pC (i0==14)):aA):=ac
def aBF:aab G N [cu i0]=(ca (i0==6) cV (i0==7) cV (pC (i0==10)):aA):=ac
def aFv:abh G N [iI i0,aa l1,aa l2,bR r3]=(bO (aaS G N [jW l1]) λ_ o1=>ca (dP o1) (oi i0 (bK l1) (gk si l2 2 (cL l1 2) [k6 8 2]) (bQ r3) []) ((gI l1 0)==2) (oi i0 (bK l1) (gk si l2 3 (cL l1 3) [(4,cL l1 4),k6 8 2]) (bQ r3) []) (ca ((gI l1 0)==3) (oi 1 (bK l1) (gk si l2 3 (cL l1 3) [(4,cL l1 4),(5,cL l1 5),k6 8 2]) (bQ r3) []) ((gI l1 0)==4) (oi 1 (bK l1) (gk si l2 1 (ke (jF l1)) [k6 8 2]) (bQ r3) []) (nj ((gI l1 0)==5) 2 (bK l1) [gk si l2 1 (ke (jF l1)) [k6 8 2],bQ r3] (bO (aab G N [jW l1]) λ_ o2=>ca (dP o2) (oi 2 (bK l1) (kh si l2 8 2 []) (bQ r3) []) ((gI l1 0)==8) (oi 3 (bK l1) (kh si l2 8 2 []) (bQ r3) []) (ca ((gI l1 0)==9) (oi 1 (bK l1) (gk si l2 6 (cL l1 6) [(7,cL l1 7),k6 8 2]) (bQ r3) []) ((gI l1 0)==12) (oi i0 (bK l1) (gk si l2 3 (cL l1 3) [k6 8 2]) (bQ r3) []) (nj ((gI l1 0)==13) 1 (bK l1) [kh si l2 8 2 [],bQ r3] (KG (bK l1) (kh si l2 8 2 []) (bQ r3) [])))))):aA):=ac
def aIc:bG CX EE G N ab0 [aa l0]=(bO (abh G N (dS (bK l0) (oD (jW l0) (ke 0) (uo (iM [.ak 2]))) [bQ dL])) λq3 o3=>iL q3 (gU ((ln (gR (bu o3) 8))==(gI o3 0)) (gU ((gI (bu o3) 1)==(gI (dN o3) 1)) (gU ((gI (bu o3) 2)==(gI (dN o3) 2)) (gU ((gI (bu o3) 3)==(gI (dN o3) 3)) (gU ((gI (bu o3) 4)==(gI (dN o3) 4)) (gU ((gI (bu o3) 5)==(gI (dN o3) 5)) (kc ((gI (bu o3) 6)==(gI (dN o3) 6)) (av ((gI (bu o3) 7)==(gI (dN o3) 7))) [] fm))))))) o3 []:aA):=ac
def aJu:bG CX EE G N TE [dg r0,iI i1,iI i2]=(gU (lR i1) (kg i1 (ln r0) (gU (lR i2) (eh i1 r0 (pC (cH i2 (lJ r0 i1))))) fm):aA):=ac
def aJy:bG CX EE G N TG [dg r0,iI i1,iI i2,iI i3]=(gU (lR i1) (kg i1 (ln r0) (eh i1 r0 (gU (nJ (bp r0 i1) 3) (gU (lR i2) (gU (dJ 1 i3) (eh i1 r0 (gU (dJ i2 (lJ r0 i1)) (eh i1 r0 (pC (dJ i3 (aU ((gI (bp r0 i1) 0)- i2))))))))))) fm):aA):=ac
def aIP:bG CX EE G N A1 [aa l0]=(gU (cE l0) (kc (jP 0 l0 3) (av (dJ (gI l0 4) 1)) [] fm):aA):=ac
def aGB:aby G N [aa l0,aa l1]=(hZ (cE l0) (jG (av (cE l1)) (dC l0) (dC l1) []) (dC l0) (dC l1) []:aA):=ac
def aEf:aaU G N [cu i0]=(ca (i0==1) cV (i0==2) cV (ca (i0==3) cV (i0==4) cV (lu (i0==5) cV (av (i0==6)) [])):aA):=ac
def aEe:aaT G N [cu i0]=(lu (i0==7) cV (av (i0==8)) []:aA):=ac
def aDh:aaC G N [cu i0]=(ca (i0==9) cV (i0==10) cV (lu (i0==11) cV (av (i0==12)) []):aA):=ac
def aDg:aaB G N [cu i0]=(ca (i0==13) cV (i0==14) cV (pC (i0==15)):aA):=ac
def aIe:bG CX EE G N ab1 [cu i0,aa l1,aa l2]=(bO (aby G N [dC l1,dC l2]) λ_ o1=>bO (aaU G N [ke i0]) λ_ o2=>lq (dP o2) (aa Qi) (eK o1) [] (bO (aaT G N [ke i0]) λ_ o3=>sW o3 0 (lq (dP o1) (aa yo) eD [] (ca (dP (bu o1)) (fN (dP (dN o1)) (dh (aa yo) eD) (aa yo) (iN (dN o1) 1)) (gB (bu o1) 1) (fN (dP (dN o1)) (dh (aa yo) eD) (aa yo) (iN (dN o1) 1)) (dh (aa yo) dp))) (bO (aaC G N [ke i0]) λ_ o4=>lq (dP o4) (aa yo) (eK o1) [] (bO (aaB G N [ke i0]) λ_ o5=>fN (dP o5) (bO (G A1 [dC (bu o1)]) λ_ o6=>fN (dP o6) (bO (G A1 [dC (dN o1)]) λ_ o7=>dh (aa yo) (eK o7)) (aa yo) dp) (aa uE) dp))):aA):=ac
def akC:SX G N (n+1) [iI i0,iI i1,aw r2]=(nI i1 (ln r2) (jN i1 r2 i1.toNat r2.length (lq ((gI (bp r2 i1) 0)==i0) eD (ba r2) [] (SX G N n [iI i0,bZ i1,ba r2]))) (ba r2) []:aA):=ac
def aIT:bG CX EE G N Tr [iI i0,aw r1]=(bO (SX G N N (iI i0::nF (ba r1) [])) λq1 o1=>fS q1 (dh (eK o1) (cM o1 1)) dp [iD o1]:aA):=ac
def aFu:abg G N [aa l0,aa l1]=(eL (dP l0) (jG eD (dC l0) (dC l1) []) (eK l1) (dC l0) (dC l1) []:aA):=ac
def aCl:ajM G N [iI i0,aa l1,j7 r2,aw r3]=(jN i0 r2 i0.toNat r2.length (eL (cE (bp r2 i0)) (jN i0 r2 i0.toNat r2.length (eL (nJ (bp r2 i0) 1) (KG (nm (.ak 2::iM [])) (qp r2) eM []) (iu l1 2) (qp r2) (ba r3) [])) (iu l1 2) (qp r2) (ba r3) []):aA):=ac
def aBE:aaa G N [iI i0,iI i1,j7 r2]=(jN i0 r2 i0.toNat r2.length (sW (bp r2 i0) 0 (jN i0 r2 i0.toNat r2.length (kc (ig i1 (bp r2 i0) 2) (qp r2) [] (kJ (qp r2) []))) (kJ (qp r2) [])):aA):=ac
def ZX:Gi G N (n+1) [iI i0,iI i1,aa l2,j7 r3,aw r4]=(bO (aaa G N [iI i0,iI i1,qp r3]) λq3 o3=>fS q3 (dG i0 o3 0 (oG i0.toNat (gR o3 0).length (dG i1 (dD o3 0 i0) 2 (bO (G Tr [eU (dD (dD o3 0 i0) 2 i1),ba r4]) λ_ o4=>bif cE o4 then dG i0 o3 0 (oG i0.toNat (gR o3 0).length (dG i1 (dD o3 0 i0) 2 (o0 (((gR o4 1).length +1)*8) (Gi G N n [iI i0,bZ i1,iu l2 2,eW D7 o3 0,ba ((gR o4 1)++([[eU (dD (dD o3 0 i0) 2 i1)]]:aE))]))))else Gi G N n [iI i0,bZ i1,iu l2 2,eW D7 o3 0,cM o4 1])))) (iu l2 2) [eW D7 o3 0,ba r4]:aA):=ac
def ajU:Gp G N (n+1) [iI i0,aa l1,aa l2,j7 r3,aw r4,aw r5]=(nI i0 2 (bO (ajM G N [iI i0,iu l1 2,qp r3,ba r4]) λq2 o2=>iL q2 (bO (Gi G N N (iI i0::dS (iu l2 2) (eW D7 o2 1) [ba r5])) λ_ o5=>Gp G N n [bZ i0,iu (bP o2) 3,iu (bP o5) 4,eW D7 o5 1,cM o2 2,cM o5 2]) o2 [iu (bu o2) 3,iu l2 4,eW D7 o2 2,cM o2 3,ba r5]) (iu l1 3) [iu l2 4,qp r3,ba r4,ba r5]:aA):=ac
def aln:bG CX EE G N Tf [aa l0,aa l1]=(bO (abg G N [dC l0,dC l1]) λ_ o1=>fN (dP o1) (bO (Gp G N N (dS (nm (.ak 3::iM [])) (KF eD (.ak 4::iM [])) [qp ([aF nc 0 (bu o1),aF nc 0 (dN o1)]:aE),eM,eM])) λq6 o6=>fS q6 (dh (gk nc (bu o6) 2 (cM o6 4) []) (eK o6)) (gk nc (bu o6) 2 (cM o6 4) []) [eD]) (nm [eM,iI (rS (gI (bu o1) 3) (gI (dN o1) 3)),iI (imax (gI (bu o1) 4) (gI (dN o1) 4))]) eD:aA):=ac
def aGs:ak3 G N [aa l0,aa l1,aw r2]=(eL (cE l0) (eL (nJ l0 1) (KG (dC l0) (nm (.ak 2::iM [])) eM []) (dC l0) (iu l1 2) (ba r2) []) (dC l0) (iu l1 2) (ba r2) []:aA):=ac
def ajR:Jx G N (n+1) [dg r0,iI i1,aa l2,aa l3,aw r4]=(eL (ig i1 l2 2) (dG i1 l2 2 (eh (nq l2 2 i1) r0 (bif i1==0 then Jx G N n [pb r0,bZ i1,dC l2,oD (eK l3) (iN l3 1) [.ak 2,iI (rS (jF (bp r0 (nq l2 2 i1))) (jF (bp r0 (nq l2 2 i1)))),iI (imax (gI (bp r0 (nq l2 2 i1)) 2) (gI (bp r0 (nq l2 2 i1)) 2))],ba r4]else Jx G N n [pb r0,bZ i1,dC l2,oD (eK l3) (iN l3 1) [.ak 2,iI (rS (gI l3 3) (jF (bp r0 (nq l2 2 i1)))),iI (imax (gI l3 4) (gI (bp r0 (nq l2 2 i1)) 2))],ba r4]))) (dC l2) (iu l3 2) (ba r4) []:aA):=ac
def aH8:bG CX EE G N abX [dg r0,aa l1]=(bO (ak3 G N [dC l1,nm (.ak 2::iM []),eM]) λq1 o1=>fS q1 (bO (Jx G N N (pb r0::dS (mT o1) (nm (.ak 2::iM [])) [eM])) λ_ o2=>jG (iu (bu o2) 0) eD (cM o2 2) []) (iu (dN o1) 0) [eK o1,cM o1 3]:aA):=ac
def aFp:aba G N [iI i0,aa l1,aa l2,j7 r3,aa l4]=(eL ((gI l2 0)==10) (eL (i0==1) (o0 ((0+(gR l1 1).length)*48) (a8 (cH 0 (ln r3)) (oG 0 r3.length (o0 (((([]:aE)++(gR l1 1)).length +([aF nc 0 (gA r3 0)]:aE).length)*48) (fR (qO l1) (bK l2) (qp r3) (oD (lK l4 0) (qp ((([]:aE)++(gR l1 1))++([aF nc 0 (gA r3 0)]:aE))) [cL l4 2]) []))))) (qO l1) (bK l2) (qp r3) [qO l4]) (qO l1) (bK l2) (qp r3) [qO l4]:aA):=ac
def akw:Ec G N (n+1) [iI i0,aa l1,aa l2,aa l3,j7 r4,aw r5]=(nI i0 (ja l2 8) (bO (aba G N [iI i0,qO l1,bK l2,qp r4,qO l1]) λ_ o2=>dG i0 (bu o2) 8 (bO (G N5 [qO (lI o2),bK (dD (bu o2) 8 i0)]) λ_ o3=>jS (nJ o3 1) (qO (bP o2)) [bK (bu o2),nm (.ak 3::iM []),eM] (o0 (((gR o2 2).length +1)*48) (Ec G N n [bZ i0,qO (bP o2),bK (bu o2),iu l3 4,qp ((gR o2 2)++([aF nc 0 (bP o3)]:aE)),ba r5])))) (qO l1) [bK l2,iu l3 4,qp r4,ba r5]:aA):=ac
def aHq:S8 G N [aa l0,aa l1,aa l2,j7 r3,aw r4]=(bO (Ec G N N (dS (qO l0) (bK l1) [iu l2 4,qp r3,ba r4])) λq4 o4=>fS q4 (rJ o4 [qO (bu o4),bK (dN o4),iu (lI o4) 3,cM o4 4]) (qO (bP o4)) [bK (bu o4),iu (dN o4) 4,eW D7 o4 3,cM o4 4]:aA):=ac
def aDd:aay G N [cu i0]=(lu (i0==6) cV (av (i0==7)) []:aA):=ac
def aAg:ZE G N [aa l0,aa l1]=(hZ (jP 0 l1 3) (hZ (ig (gI l1 3) l0 0) (dG (gI l1 3) l0 0 (hZ (nJ (jO l0 0 l1 3) 3) (dG (gI l1 3) l0 0 (jG (av ((gI (jO l0 0 l1 3) 0)==1)) (qO l0) (bK l1) [])) (qO l0) (bK l1) [])) (qO l0) (bK l1) []) (qO l0) (bK l1) []:aA):=ac
def aJt:bG CX EE G N N5 [aa l0,aa l1]=(bO (G ab0 [bK l1]) λ_ o1=>lq (cE o1) (aa uE) dp [] (bO (S8 G N [qO l0,bK l1,nm (.ak 4::iM []),qp dL,eM]) λq5 o5=>fS q5 (bif (gI (bu o5) 0)==1 then fN (jP (-2147483648) (bu o5) 2) (dh (oD dp (av ((gI (bu o5) 2)==0)) [eM,rK o5 2,rK o5 2]) (av (dJ (gI (bu o5) 2) 2147483647))) (oD dp (av ((gI (bu o5) 2)==0)) [eM,rK o5 2,rK o5 2]) dp else ca ((gI (bu o5) 0)==2) (bO (G TE [lK (bP o5) 0,rK o5 3,rK o5 4]) λ_ o6=>lq (cE o6) (aa uE) dp [] (dG (gI (bu o5) 3) (bP o5) 0 (dh (KF (iN (jO (bP o5) 0 (bu o5) 3) 3) [cM (jO (bP o5) 0 (bu o5) 3) 4,mC (jO (bP o5) 0 (bu o5) 3),cL (jO (bP o5) 0 (bu o5) 3) 2]) eD))) ((gI (bu o5) 0)==3) (bO (G TG [lK (bP o5) 0,rK o5 3,rK o5 4,rK o5 5]) λ_ o7=>lq (cE o7) (aa uE) dp [] (dG (gI (bu o5) 3) (bP o5) 0 (dG (gI (bu o5) 3) (bP o5) 0 (gT o5 3 (oG 0 (gR o5 3).length (dh (nm [eM,mC (jO (bP o5) 0 (bu o5) 3),cL (jO (bP o5) 0 (bu o5) 3) 2]) (av (cE (jk o5 3 0))))))))) (ca ((gI (bu o5) 0)==4) (bif (gI (bu o5) 1)==18 then gT o5 3 (oG 0 (gR o5 3).length (bO (G A1 [dC (jk o5 3 0)]) λ_ o8=>dh (aa yo) (eK o8)))else ca ((gI (bu o5) 1)==16) (gT o5 3 (oG 0 (gR o5 3).length (dh (aa Qi) (av (cE (jk o5 3 0)))))) ((gI (bu o5) 1)==17) (gT o5 3 (oG 0 (gR o5 3).length (dh (aa Qi) (av (cE (jk o5 3 0)))))) (dh (aa Qi) dp)) ((gI (bu o5) 0)==5) (gT o5 3 (oG 0 (gR o5 3).length (v8 1 o5 3 (oG 1 (gR o5 3).length (bO (G ab1 [ke (jF (bu o5)),dC (jk o5 3 0),dC (jk o5 3 1)]) λ_ o9=>dh (mT o9) (iN o9 1)))))) (bO (aay G N [jW (bu o5)]) λ_ cO=>ca (dP cO) (gT o5 3 (oG 0 (gR o5 3).length (bO (G A1 [dC (jk o5 3 0)]) λ_ dQ=>fN (dP dQ) (v8 1 o5 3 (oG 1 (gR o5 3).length (bO (G A1 [dC (jk o5 3 1)]) λ_ cq=>dh (aa yo) (eK cq)))) (aa yo) dp))) ((gI (bu o5) 0)==8) (v8 1 o5 3 (oG 1 (gR o5 3).length (v8 2 o5 3 (oG 2 (gR o5 3).length (bO (G Tf [dC (jk o5 3 1),dC (jk o5 3 2)]) λ_ fr=>fN (gB fr 1) (gT o5 3 (oG 0 (gR o5 3).length (bO (G A1 [dC (jk o5 3 0)]) λ_ dr=>dh (mT fr) (eK dr)))) (mT fr) dp))))) (ca ((gI (bu o5) 0)==9) (fN (jP (-2147483648) (bu o5) 6) (fN (dJ (gI (bu o5) 7) 2147483647) (fN (jP (gI (bu o5) 6) (bu o5) 7) (gT o5 3 (oG 0 (gR o5 3).length (dh (nm [eM,rK o5 6,rK o5 7]) (av (cE (jk o5 3 0)))))) (nm [eM,rK o5 6,rK o5 7]) dp) (nm [eM,rK o5 6,rK o5 7]) dp) (nm [eM,rK o5 6,rK o5 7]) dp) ((gI (bu o5) 0)==10) (v8 1 o5 3 (oG 1 (gR o5 3).length (dh (gk nc (jk o5 3 1) 1 dp []) eD))) (ca ((gI (bu o5) 0)==11) (oZ (gI (bu o5) 2) 0 (dh (aa uE) dp) (jP (ja (bP o5) 1) (bu o5) 2) (dh (aa uE) dp) (dG (aU ((aU ((ln (gR (bP o5) 1))- 1))-(gI (bu o5) 2))) (bP o5) 1 (dh (gk nc (dD (bP o5) 1 (aU ((aU ((ln (gR (bP o5) 1))- 1))-(gI (bu o5) 2)))) 1 dp []) eD))) ((gI (bu o5) 0)==12) (bO (ZE G N [qO (bP o5),bK (bu o5)]) λ_ dI=>dh (KF eD ((ba ([[cL (dN dI) 3]]:aE))::iM [])) (eK dI)) (ca ((gI (bu o5) 0)==13) (gT o5 3 (oG 0 (gR o5 3).length (bO (G abX [lK (bP o5) 0,dC (jk o5 3 0)]) λ_ jU=>dh (gk nc (bP jU) 2 (cM jU 2) []) (iN jU 1)))) (jP 0 (bu o5) 2) (dh (aa XA) (av (cH (gI (bu o5) 2) (gI (bP o5) 2)))) (dh (aa XA) dp))))))) (gk nc (lI o5) 2 (cM o5 4) []) [eK o5]):aA):=ac
end
noncomputable section
variable {G:Nat->aq->Option UO} {N n:Nat} {b3:Bool} {i0 i1 i2:Int} {l0 l1 l2 l3 l4 l5:aq} {r0 r1 r2 r3 r4 r5 r6 r7 r8 r9 eZ gD gz gy gZ:aE}
def aLp:bG CX EE G N Es [aa l0,aa l1]=(bO (G TF [bK l1,iI 256,iI 64]) λ_ o1=>lq (cH (mq o1) 0) (aa uE) dp [] (bO (G N5 [qO l0,bK l1]) λ_ o2=>dh (mT o2) (iN o2 1)):aA):=ac
def aEg:aaV G N [cu i0]=(ca (i0==1) cV (i0==14) cV (lu (i0==6) cV (av (i0==7)) []):aA):=ac
def aFw:abi G N [dg r0,aw r1,aa l2]=(bO (aaV G N [jW l2]) λ_ o1=>kc (dP o1) (bK l2) [] (ca ((gI l2 0)==2) (bO (G xX [ba r1,cL l2 3]) λ_ o2=>lr (cE o2) [bK l2] (eh (gI l2 3) r0 (lu (gB (bp r0 (gI l2 3)) 3) (iU (bK l2)) (bK l2) []))) ((gI l2 0)==4) (lu ((gI l2 1) != 18) (iU (bK l2)) (bK l2) []) (bif (gI l2 0)==5 then oZ (jF l2) 7 (iU (bK l2)) (cH 15 (jF l2)) (iU (bK l2)) (j8 (bK l2))else iU (bK l2))):aA):=ac
def ajV:Sx G N (n+1) [dg r0,aw r1,iI i2,aa l3]=(nI i2 (ja l3 8) (dG i2 l3 8 (bO (G Nx [pb r0,ba r1,bK (dD l3 8 i2)]) λ_ o4=>jS (cE o4) (bK l3) [] (Sx G N n [pb r0,ba r1,bZ i2,bK l3]))) (bK l3) []:aA):=ac
def aHt:bG CX EE G N Nx [dg r0,aw r1,aa l2]=(bO (abi G N [pb r0,ba r1,bK l2]) λq3 o3=>iL q3 (bO (Sx G N N (pb r0::ba r1::nF (bK (bP o3)) [])) λq5 o5=>kc (gJ q5) (eK o5) [] cV) o3 []:aA):=ac
def aBD:Z9 G N [cu i0]=(lu (i0==8) cV (av (i0==10)) []:aA):=ac
def aAh:ZF G N [cu i0]=(lu (i0==12) cV (av (i0==13)) []:aA):=ac
def aGz:abw G N [iI i0,iI i1,iI i2,av b3,aa l4,aa l5,bR r6,bR r7,c7 r8,c7 r9,aw eZ,dv gD,fO gz,fV gy,fy gZ]=(ca ((gI l4 0)==1) (oi i0 (iI i1) (iI i2) (av b3) [aC l4,mj l5 2 [kr 3,kE 4,kB 5,kz 6,kF 7,kv 8,kG 9,nB],bQ r6,bQ r7,cT r8,cT r9,ba eZ,da gD,gj gz,gG gy,gL gZ]) ((gI l4 0)==2) (oi 1 (iI 1) (iI i2) (av b3) [aC l4,mj l5 2 [kr 3,kE 4,kB 5,kz 6,kF 7,kv 8,kG 9,nB],bQ r6,bQ r7,cT r8,cT r9,ba eZ,da gD,gj gz,gG gy,gL gZ]) (ca ((gI l4 0)==3) (oi i0 (iI i1) (iI (-1)) (av b3) [aC l4,mj l5 2 [kr 3,kE 4,kB 5,kz 6,kF 7,kv 8,kG 9,nB],bQ r6,bQ r7,cT r8,cT r9,ba eZ,da gD,gj gz,gG gy,gL gZ]) ((gI l4 0)==4) (oi 1 (iI i1) (iI 2) (av b3) [aC l4,mj l5 2 [kr 3,kE 4,kB 5,kz 6,kF 7,kv 8,kG 9,nB],bQ r6,bQ r7,cT r8,cT r9,ba eZ,da gD,gj gz,gG gy,gL gZ]) (nj ((gI l4 0)==5) 1 (iI i1) [iI 1,av b3,aC l4,mj l5 2 [kr 3,kE 4,kB 5,kz 6,kF 7,kv 8,kG 9,nB],bQ r6,bQ r7,cT r8,cT r9,ba eZ,da gD,gj gz,gG gy,gL gZ] (ca ((gI l4 0)==6) (oi 2 (iI i1) (iI 1) (av b3) [aC l4,oB (jW l5) l5 [cL l4 2,cL l5 3,cL l5 4,cL l5 5,iN l5 6,iN l4 7,iN l5 8,iN l5 9,iN l5 10,ke (gI l5 11),.ak 2,.ak 3,.ak 4,.ak 5,.ak 6,.ak 7,.ak 8,.ak 9,.ak 10],bQ r6,bQ r7,cT r8,cT r9,ba eZ,da gD,gj gz,gG gy,gL gZ]) ((gI l4 0)==7) (oi i0 (iI i1) (iI 1) (av b3) [aC l4,gk py l5 1 (mC l4) [k6 12 2,kr 3,kE 4,kB 5,kz 6,kF 7,kv 8,kG 9,nB],bQ r6,bQ r7,cT r8,cT r9,ba eZ,da gD,gj gz,gG gy,gL gZ]) (bO (Z9 G N [jW l4]) λ_ o1=>nj (dP o1) i0 (iI i1) [iI i2,av b3,aC l4,gk py l5 1 (mC l4) [k6 12 2,kr 3,kE 4,kB 5,kz 6,kF 7,kv 8,kG 9,nB],bQ r6,bQ r7,cT r8,cT r9,ba eZ,da gD,gj gz,gG gy,gL gZ] (ca ((gI l4 0)==9) (oi i0 (iI i1) (iI 1) eD [aC l4,mj l5 2 [kr 3,kE 4,kB 5,kz 6,kF 7,kv 8,kG 9,nB],bQ r6,bQ r7,cT r8,cT r9,ba eZ,da gD,gj gz,gG gy,gL gZ]) ((gI l4 0)==11) (oi 1 (iI i1) (iI i2) (av b3) [aC l4,mj l5 2 [kr 3,kE 4,kB 5,kz 6,kF 7,kv 8,kG 9,nB],bQ r6,bQ r7,cT r8,cT r9,ba eZ,da gD,gj gz,gG gy,gL gZ]) (bO (ZF G N [jW l4]) λ_ o2=>nj (dP o2) i0 (iI 1) [iI i2,av b3,aC l4,mj l5 2 [kr 3,kE 4,kB 5,kz 6,kF 7,kv 8,kG 9,nB],bQ r6,bQ r7,cT r8,cT r9,ba eZ,da gD,gj gz,gG gy,gL gZ] (ca ((gI l4 0)==14) (eL (gB l4 6) (oi i0 (iI 1) (iI i2) (av b3) [aC l4,oB (jW l5) l5 [cL l5 2,cL l5 3,cL l4 4,cL l4 5,iN l4 6,iN l5 7,iN l5 8,iN l5 9,iN l5 10,ke (gI l5 11),.ak 2,.ak 3,.ak 4,.ak 5,.ak 6,.ak 7,.ak 8,.ak 9,.ak 10],bQ r6,bQ r7,cT r8,cT r9,ba eZ,da gD,gj gz,gG gy,gL gZ]) (iI i0) (iI 1) (iI i2) [av b3,aC l4,oB (jW l5) l5 [cL l5 2,cL l5 3,cL l5 4,cL l4 5,iN l4 6,iN l5 7,iN l5 8,iN l5 9,iN l5 10,ke (gI l5 11),.ak 2,.ak 3,.ak 4,.ak 5,.ak 6,.ak 7,.ak 8,.ak 9,.ak 10],bQ r6,bQ r7,cT r8,cT r9,ba eZ,da gD,gj gz,gG gy,gL gZ]) ((gI l4 0)==15) (oi 1 (iI i1) (iI i2) (av b3) [aC l4,gk py l5 8 (iN l4 8) [k6 12 2,kr 3,kE 4,kB 5,kz 6,kF 7,kv 8,kG 9,nB],bQ r6,bQ r7,cT r8,cT r9,ba eZ,da gD,gj gz,gG gy,gL gZ]) (nj ((gI l4 0)==16) (-1) (iI i1) [iI 2,av b3,aC l4,oB (jW l5) l5 [cL l5 2,cL l4 3,cL l5 4,cL l4 5,iN l5 6,iN l5 7,iN l5 8,iN l5 9,iN l5 10,ke (gI l4 11),.ak 2,.ak 3,.ak 4,.ak 5,.ak 6,.ak 7,.ak 8,.ak 9,.ak 10],bQ r6,bQ r7,cT r8,cT r9,ba eZ,da gD,gj gz,gG gy,gL gZ] (ca ((gI l4 0)==17) (oi (-1) (iI i1) (iI 3) (av b3) [aC l4,oB (jW l5) l5 [cL l5 2,cL l5 3,cL l4 4,cL l4 5,iN l5 6,iN l5 7,iN l5 8,iN l5 9,iN l5 10,ke (gI l4 11),.ak 2,.ak 3,.ak 4,.ak 5,.ak 6,.ak 7,.ak 8,.ak 9,.ak 10],bQ r6,bQ r7,cT r8,cT r9,ba eZ,da gD,gj gz,gG gy,gL gZ]) ((gI l4 0)==18) (oi i0 (iI i1) (iI 2) (av b3) [aC l4,gk py l5 5 (cL l4 5) [k6 12 2,kr 3,kE 4,kB 5,kz 6,kF 7,kv 8,kG 9,nB],bQ r6,bQ r7,cT r8,cT r9,ba eZ,da gD,gj gz,gG gy,gL gZ]) (ca ((gI l4 0)==19) (oi i0 (iI i1) (iI 1) eD [aC l4,gk py l5 9 (iN l4 9) [k6 12 2,kr 3,kE 4,kB 5,kz 6,kF 7,kv 8,kG 9,nB],bQ r6,bQ r7,cT r8,cT r9,ba eZ,da gD,gj gz,gG gy,gL gZ]) ((gI l4 0)==20) (oi i0 (iI i1) (iI 1) (av b3) [aC l4,gk py l5 4 (cL l4 4) [k6 12 2,kr 3,kE 4,kB 5,kz 6,kF 7,kv 8,kG 9,nB],bQ r6,bQ r7,cT r8,cT r9,ba eZ,da gD,gj gz,gG gy,gL gZ]) (ca ((gI l4 0)==21) (oi i0 (iI i1) (iI i2) (av b3) [aC l4,oB (jW l5) l5 [cL l5 2,cL l4 3,cL l5 4,cL l4 5,iN l5 6,iN l5 7,iN l5 8,iN l5 9,iN l4 10,ke (gI l5 11),.ak 2,.ak 3,.ak 4,.ak 5,.ak 6,.ak 7,.ak 8,.ak 9,.ak 10],bQ r6,bQ r7,cT r8,cT r9,ba eZ,da gD,gj gz,gG gy,gL gZ]) ((gI l4 0)==22) (oi i0 (iI i1) (iI i2) eD [aC l4,mj l5 2 [kr 3,kE 4,kB 5,kz 6,kF 7,kv 8,kG 9,nB],bQ r6,bQ r7,cT r8,cT r9,ba eZ,da gD,gj gz,gG gy,gL gZ]) (jw (aC l4) (mj l5 2 [kr 3,kE 4,kB 5,kz 6,kF 7,kv 8,kG 9,nB]) (bQ r6) (bQ r7) [cT r8,cT r9,ba eZ,da gD,gj gz,gG gy,gL gZ])))))))))))):aA):=ac
def aFt:abe G N [aa l0,aa l1,bR r2,bR r3,c7 r4,c7 r5,aw r6,dv r7,fO r8,fV r9,fy eZ]=(ca ((gI l0 1) != (gI l1 1)) (jw (aC l0) (mj l1 2 [kr 3,kE 4,kB 5,kz 6,kF 7,kv 8,kG 9,nB]) (bQ r2) (bQ r3) [cT r4,cT r5,ba r6,da r7,gj r8,gG r9,gL eZ]) ((gI l0 2) != (gI l1 2)) (jw (aC l0) (mj l1 2 [kr 3,kE 4,kB 5,kz 6,kF 7,kv 8,kG 9,nB]) (bQ r2) (bQ r3) [cT r4,cT r5,ba r6,da r7,gj r8,gG r9,gL eZ]) (ca ((gI l0 3) != (gI l1 3)) (jw (aC l0) (mj l1 2 [kr 3,kE 4,kB 5,kz 6,kF 7,kv 8,kG 9,nB]) (bQ r2) (bQ r3) [cT r4,cT r5,ba r6,da r7,gj r8,gG r9,gL eZ]) ((gI l0 4) != (gI l1 4)) (jw (aC l0) (mj l1 2 [kr 3,kE 4,kB 5,kz 6,kF 7,kv 8,kG 9,nB]) (bQ r2) (bQ r3) [cT r4,cT r5,ba r6,da r7,gj r8,gG r9,gL eZ]) (ca ((gI l0 5) != (gI l1 5)) (jw (aC l0) (mj l1 2 [kr 3,kE 4,kB 5,kz 6,kF 7,kv 8,kG 9,nB]) (bQ r2) (bQ r3) [cT r4,cT r5,ba r6,da r7,gj r8,gG r9,gL eZ]) (!((gB l0 6)==(gB l1 6))) (jw (aC l0) (mj l1 2 [kr 3,kE 4,kB 5,kz 6,kF 7,kv 8,kG 9,nB]) (bQ r2) (bQ r3) [cT r4,cT r5,ba r6,da r7,gj r8,gG r9,gL eZ]) (ca (!((gB l0 7)==(gB l1 7))) (jw (aC l0) (mj l1 2 [kr 3,kE 4,kB 5,kz 6,kF 7,kv 8,kG 9,nB]) (bQ r2) (bQ r3) [cT r4,cT r5,ba r6,da r7,gj r8,gG r9,gL eZ]) (!((gB l0 8)==(gB l1 8))) (jw (aC l0) (mj l1 2 [kr 3,kE 4,kB 5,kz 6,kF 7,kv 8,kG 9,nB]) (bQ r2) (bQ r3) [cT r4,cT r5,ba r6,da r7,gj r8,gG r9,gL eZ]) (ca (!((gB l0 9)==(gB l1 9))) (jw (aC l0) (mj l1 2 [kr 3,kE 4,kB 5,kz 6,kF 7,kv 8,kG 9,nB]) (bQ r2) (bQ r3) [cT r4,cT r5,ba r6,da r7,gj r8,gG r9,gL eZ]) (!((gB l0 10)==(gB l1 10))) (jw (aC l0) (mj l1 2 [kr 3,kE 4,kB 5,kz 6,kF 7,kv 8,kG 9,nB]) (bQ r2) (bQ r3) [cT r4,cT r5,ba r6,da r7,gj r8,gG r9,gL eZ]) (eL ((gI l0 11) != (gI l1 11)) (jw (aC l0) (mj l1 2 [kr 3,kE 4,kB 5,kz 6,kF 7,kv 8,kG 9,nB]) (bQ r2) (bQ r3) [cT r4,cT r5,ba r6,da r7,gj r8,gG r9,gL eZ]) (aC l0) (mj l1 2 [kr 3,kE 4,kB 5,kz 6,kF 7,kv 8,kG 9,nB]) (bQ r2) [bQ r3,cT r4,cT r5,ba r6,da r7,gj r8,gG r9,gL eZ]))))):aA):=ac
def aFs:abd G N [iI i0,iI i1,iI i2,aa l3]=(ca (lR i0) (lr ((ln (gR l3 12)) != i0) [aC l3] (ca ((ln (gR l3 14)) != i1) (iU (aC l3)) (lR i2) (lu ((ln (gR l3 17)) != i2) (iU (aC l3)) (aC l3) []) (j8 (aC l3)))) ((ln (gR l3 14)) != i1) (iU (aC l3)) (lu (lR i2) (lu ((ln (gR l3 17)) != i2) (iU (aC l3)) (aC l3) []) (aC l3) []):aA):=ac
def aFr:abc G N [aa l0]=(lu ((gI l0 0) != 16) (ca (ig 0 l0 13) (iU (aC l0)) (ig 0 l0 15) (iU (aC l0)) (j8 (aC l0))) (aC l0) []:aA):=ac
def aEa:aaP G N [aa l0]=(ca ((gI l0 0) != 9) (ca (ig 0 l0 18) (iU (aC l0)) (ig 0 l0 19) (iU (aC l0)) (lu ((gI l0 0) != 19) (lu (ig 0 l0 20) (iU (aC l0)) (aC l0) []) (aC l0) [])) ((gI l0 0) != 19) (lu (ig 0 l0 20) (iU (aC l0)) (aC l0) []) (j8 (aC l0)):aA):=ac
def aIS:bG CX EE G N acg [aa l0]=(bO (abw G N (iM (dS dp (aC l0) [HB (jW l0) (uo (dS dp dp [dp,dp,dp,ke 0,.ak 2,.ak 3,.ak 4,.ak 5,.ak 6,.ak 7,.ak 8,.ak 9,.ak 10])),bQ dL,bQ dL,cT dL,cT dL,eM,da dL,gj dL,gG dL,gL dL]))) λq3 o3=>iL q3 (bO (abe G N [aC (fZ o3),mj (gC o3 5) 2 [kr 3,kE 4,kB 5,kz 6,kF 7,kv 8,kG 9,nB],pa o3 6,pa o3 7,eW xw o3 8,eW xw o3 9,cM o3 10,pB o3 11,eW Cf o3 12,eW Eb o3 13,eW Eh o3 14]) λq4 o4=>iL q4 (bO (abd G N [eU o3,mC o3,cL o3 2,um o4]) λq5 o5=>iL q5 (bO (abc G N [um o5]) λq6 o6=>iL q6 (bO (aaP G N [um o6]) λq7 o7=>iL q7 (lu (gB o3 3) (lu ((gI (bP o7) 0) != 19) cV (av ((ln (gR (bP o7) 16))==0)) []) (av ((ln (gR (bP o7) 16))==0)) []) o7 []) o6 []) o5 []) o4 []) o3 []:aA):=ac
def aGA:abx G N [aa l0]=(ca ((gI l0 0)==16) (kJ eD [aC l0]) ((gI l0 0)==17) (kJ eD [aC l0]) (ca ((gI l0 0)==18) (kJ eD [aC l0]) ((gI l0 0)==19) (kJ eD [aC l0]) (ca ((gI l0 0)==15) (kJ eD [aC l0]) ((gI l0 0)==11) (kJ eD [aC l0]) (bif (gI l0 0)==12 then kJ eD [aC l0]else ca ((gI l0 0)==22) (kJ eD [aC l0]) ((gI l0 0)==21) (kJ eD [aC l0]) (j8 (aC l0))))):aA):=ac
def aId:bG CX EE G N Tg [aa l0]=(bO (abx G N [aC l0]) λq1 o1=>iL q1 (kc ((gI (bP o1) 0)==9) (av (ig 0 (bP o1) 16)) [] fm) o1 []:aA):=ac
def aCm:aat G N [aa l0,aa l1]=(fN (ig 0 l0 9) (bO (G Tg [aC l1]) λ_ o1=>fN (dP o1) (oC (cC l0) (aC l1) []) (cC l0) (aC l1)) (cC l0) (aC l1):aA):=ac
def aBG:aac G N [aa l0,aa l1]=(ca (gB l0 11) (ca ((gI l1 0)==18) (oC (cC l0) (aC l1) []) ((gI l1 0)==19) (oC (cC l0) (aC l1) []) (fN ((gI l1 0)==21) (oC (cC l0) (aC l1) []) (cC l0) (aC l1))) (gB l0 12) (lr ((gI l1 0)==18) [cC l0,aC l1] (ca ((gI l1 0)==19) (oC (cC l0) (aC l1) []) ((gI l1 0)==21) (oC (cC l0) (aC l1) []) (dh (cC l0) (aC l1)))) (dh (cC l0) (aC l1)):aA):=ac
def aEo:bG CX EE G N aaI [aa l0,aa l1]=(bO (aat G N [cC l0,aC l1]) λq2 o2=>iL q2 (bO (aac G N [uk o2,qt o2]) λq3 o3=>iL q3 (bif nJ (bP o3) 12 then cV else bO (G Tg [qt o3]) λ_ o4=>ca (cE o4) cV ((gI (bu o3) 0)==11) cV (pC ((gI (bu o3) 0)==12))) o3 []) o2 []:aA):=ac
def aGD:abA G N [iI i0,aa l1,aa l2,bR r3]=(nj ((gI l1 0)==1) i0 (fg l1) [oB (jW l2) l1 [cL l1 2,cL l2 3,.ak 2],bQ r3] (ca ((gI l1 0)==2) (oi 1 (fg l1) (gk tD l1 0 (jW l2) [k6 4 2]) (bQ r3) []) ((gI l1 0)==3) (oi 1 (fg l1) (kh tD l2 4 2 []) (bQ r3) []) (jw (fg l1) (kh tD l2 4 3 []) eM (bQ r3) [])):aA):=ac
def aGC:abz G N [iI i0,aa l1,aa l2,bR r3]=(ca ((ln (gR l1 4)) != i0) (jw (fg l1) (kh tD l2 4 3 []) eM (bQ r3) []) ((gI l1 1) != (gI l2 1)) (jw (fg l1) (kh tD l2 4 3 []) eM (bQ r3) []) (ca ((gI l1 2) != (gI l2 2)) (jw (fg l1) (kh tD l2 4 3 []) eM (bQ r3) []) ((gI l1 3) != (gI l2 3)) (jw (fg l1) (kh tD l2 4 3 []) eM (bQ r3) []) (jG (fg l1) (kh tD l2 4 2 []) (bQ r3) [])):aA):=ac
end
noncomputable section
variable {G:Nat->aq->Option UO} {N n:Nat} {i0 i1 i2:Int} {l0 l1 l2 l3:aq} {r0 r1:aE}
def aIV:bG CX EE G N NU [dg r0,aa l1]=(bO (abA G N (dS (fg l1) (HB (jW l1) (iM (nF (.ak 2) []))) [bQ dL])) λq1 o1=>fS q1 (bO (abz G N [eU o1,fg (bu o1),kh tD (dN o1) 4 2 [],pa o1 3]) λq2 o2=>fS q2 (bif (gI (bP o2) 0)==1 then bO (G TE [pb r0,mC (bP o2),cL (bP o2) 2]) λ_ o3=>dh (ba ([[mC (bP o2)]]:aE)) (eK o3)else gT (bP o2) 4 (bO (G Es [oD (pb r0) (qp []) [iI (-1)],nZ (bP o2) 4 0]) λ_ o4=>ca ((gI (bP o2) 0)==2) (fN (gB o4 1) (fN (cE (bP o4)) (bO (G TG [pb r0,mC (bP o2),cL (bP o2) 2,cL (bP o2) 3]) λ_ o5=>dh (ba ([[mC (bP o2)]]:aE)) (eK o5)) (ba ([[mC (bP o2)]]:aE)) dp) (ba ([[mC (bP o2)]]:aE)) dp) (gB o4 1) (fN (dP (bP o4)) (dh (cM (bP o4) 2) eD) (cM (bP o4) 2) (iN (bP o4) 1)) (dh (cM (bP o4) 2) dp))) (cM o2 3) [eK o2]) (cM o1 3) [eK o1]:aA):=ac
def aHw:bG CX EE G N JJ [aa l0,iI i1]=(dG i1 l0 4 (ca (lR (nq l0 4 i1)) (bO (G xX [cM l0 9,eU (dD l0 4 i1)]) λ_ o1=>nC o1) (cH (jF (dD l0 4 i1)) 0) cV (gU ((gI (dD l0 4 i1) 1)==(gI l0 5)) (bO (G xX [cM l0 8,cL (dD l0 4 i1) 2]) λ_ o2=>nC o2))):aA):=ac
def aEh:aks G N [aa l0,aa l1]=(ca ((gI l1 0)==2) (bO (G JJ [cC l0,cL l1 3]) λ_ o1=>fN (cE o1) (oC (cC l0) (bK l1) []) (cC l0) (bK l1)) ((gI l1 0)==3) (bO (G JJ [cC l0,cL l1 3]) λ_ o2=>fN (cE o2) (oC (cC l0) (bK l1) []) (cC l0) (bK l1)) (dh (cC l0) (bK l1)):aA):=ac
def aao:aj6 G N [aa l0,aa l1]=(fN ((gI l1 0)==12) (dG (gI l1 3) l0 4 (lr (vd (jO l0 4 l1 3)) [cC l0,bK l1] (dG (gI l1 3) l0 4 (fN (jP 0 (jO l0 4 l1 3) 1) (oC (cC l0) (bK l1) []) (cC l0) (bK l1))))) (cC l0) (bK l1):aA):=ac
def ajs:MY G N (n+1) [iI i0,aa l1,aa l2]=(nI i0 (ja l2 8) (dG i0 l2 8 (bO (G xv [cC l1,bK (dD l2 8 i0)]) λ_ o5=>jS (cE o5) (cC l1) [bK l2] (MY G N n [bZ i0,cC l1,bK l2]))) (cC l1) [bK l2]:aA):=ac
def aGF:bG CX EE G N xv [aa l0,aa l1]=(bO (aks G N [cC l0,bK l1]) λq3 o3=>iL q3 (bO (aj6 G N [uk o3,bK (bu o3)]) λq4 o4=>iL q4 (bO (MY G N N (dS (uk o4) (bK (bu o4)) [])) λq6 o6=>kc (gJ q6) (eK o6) [] cV) o4 []) o3 []:aA):=ac
def ajj:Sg G N (n+1) [iI i0,aa l1,aa l2]=(nI i0 (ja l2 4) (dG i0 l2 4 (bO (G xv [cC l1,bK (dD l2 4 i0)]) λ_ o2=>jS (cE o2) (cC l1) [fg l2,eM] (Sg G N n [bZ i0,cC l1,fg l2]))) (cC l1) [fg l2]:aA):=ac
def aCn:ajN G N [aa l0,aa l1]=(bO (Sg G N N (dS (cC l0) (fg l1) [])) λq3 o3=>fS q3 (rJ o3 [cC (bu o3),fg (dN o3),cM o3 3]) (uk o3) [fg (bu o3)]:aA):=ac
def aji:MU G N (n+1) [aw r0,iI i1,aa l2,aa l3]=(mB i1 (ln r0) r0 (bO (G xX [cM l2 10,eU (bp r0 i1)]) λ_ o5=>ca (dP o5) (fR dp (cC l2) (fg l3) eM []) ((gI l3 0) != 3) (eh i1 r0 (bO (G JJ [cC l2,eU (bp r0 i1)]) λ_ o6=>jS (cE o6) (cC l2) [fg l3,eM] (MU G N n [ba r0,bZ i1,cC l2,fg l3]))) (MU G N n [ba r0,bZ i1,cC l2,fg l3])) (cC l2) [fg l3]:aA):=ac
def aFF:bG CX EE G N JA [aa l0,aa l1]=(bO (G NU [lK l0 0,fg l1]) λ_ o1=>lq (nJ o1 1) eM dp [] (bO (ajN G N [cC l0,fg l1]) λq4 o4=>fS q4 (bO (MU G N N (iD o1::dS (uk o4) (fg (bu o4)) [])) λq7 o7=>fS q7 (dh (cM o7 3) (eK o7)) (iD o1) [eD]) (cM o4 3) [eK o4]):aA):=ac
def aGG:bG CX EE G N Gu [aa l0,aa l1]=(bO (G Es [oD (lK l0 0) (qp []) [iI (-1)],bK l1]) λ_ o1=>fN (gB o1 1) (bO (G xv [cC l0,bK l1]) λ_ o2=>dh (mT o1) (eK o2)) (mT o1) dp:aA):=ac
def aj9:SG G N (n+1) [aw r0,aw r1,iI i2]=(kg i2 (ln r0) (eh i2 r0 (bO (G xX [ba r1,eU (bp r0 i2)]) λ_ o1=>pU (cE o1) (SG G N n [ba r0,ba r1,bZ i2]))) (oo []):aA):=ac
def aH9:bG CX EE G N abY [aw r0,aw r1]=(bO (SG G N N (ba r0::ba r1::nv [])) λq2 o2=>kc (gJ q2) (eK o2) [] cV:aA):=ac
def aJx:bG CX EE G N acz [aa l0,aa l1]=(ca (gB l0 3) (ca (gB l1 1) cV (dP l1) (bO (G abY [cM l1 2,cM l0 4]) λ_ o1=>nC o1) fm) (cE l1) (kc (jP (jF l0) l1 3) (av (jP (gI l1 4) l0 2)) [] fm) fm:aA):=ac
def aDn:bG CX EE G N Jr [aa l0,aa l1,iI i2]=(bO (G Gu [cC l0,bK l1]) λ_ o1=>gU (gB o1 1) (dG i2 l0 0 (bO (G acz [lG (dD l0 0 i2),mT o1]) λ_ o2=>nC o2)):aA):=ac
def ajE:Sq G N (n+1) [aw r0,iI i1,aa l2,aa l3]=(nI i1 (ln r0) (gT l3 12 (eh i1 r0 (bO (G Jr [cC l2,nZ l3 12 0,eU (bp r0 i1)]) λ_ o3=>jS (cE o3) (cC l2) [aC l3] (Sq G N n [ba r0,bZ i1,cC l2,aC l3])))) (cC l2) [aC l3]:aA):=ac
def aHv:bG CX EE G N abF [aa l0,aa l1]=(gT l1 14 (bO (G JA [cC l0,fg (jk l1 14 0)]) λ_ o1=>pU (nJ o1 1) (gT l1 12 (bO (G Gu [cC l0,nZ l1 12 0]) λ_ o2=>bO (Sq G N N (iD o1::dS (cC l0) (aC l1) [])) λq4 o4=>fS q4 (nC o4) (iN o2 1) []))):aA):=ac
def aBM:bG CX EE G N Sd [aa l0,aa l1]=(bO (G Gu [cC l0,bK l1]) λ_ o1=>gU (gB o1 1) (bO (G A1 [mT o1]) λ_ o2=>nC o2):aA):=ac
def aEq:bG CX EE G N M9 [aa l0,aa l1]=(bO (G Gu [cC l0,bK l1]) λ_ o1=>kc (gB o1 1) (av (cE (bP o1))) [] fm:aA):=ac
def aDm:bG CX EE G N M4 [aa l0,aa l1]=(bO (G JA [cC l0,fg l1]) λ_ o1=>gU (gB o1 1) (gU ((gI l1 0) != 3) (gT o1 0 (dG (mq (jk o1 0 0)) l0 0 (pC (nJ (dD l0 0 (mq (jk o1 0 0))) 3))))):aA):=ac
def aGr:SY G N (n+1) [bR r0,bR r1,iI i2]=(kg i2 (ln r0) (eh i2 r0 (eh i2 r1 (bO (G aHd [bK (bp r0 i2),bK (bp r1 i2)]) λ_ o1=>pU (cE o1) (SY G N n [bQ r0,bQ r1,bZ i2])))) (oo []):aA):=ac
def aIU:bG CX EE G N amd [bR r0,bR r1]=(pU ((ln r0) != (ln r1)) (bO (SY G N N (bQ r0::bQ r1::nv [])) λq2 o2=>kc (gJ q2) (eK o2) [] cV):aA):=ac
end
noncomputable section
variable {G:Nat->aq->Option UO} {N n:Nat} {i0 i1 i2 i3 i4:Int} {l0 l1 l2 l3 l4 l5 l6:aq} {r1 r2 r3 r4:aE}
def azG:Zy G N [aa l0,aa l1]=(oZ (gI l1 2) 0 (oC (cC l0) (aC l1) []) (jP (ja l0 0) l1 2) (oC (cC l0) (aC l1) []) (dG (gI l1 2) l0 0 (lr (gB (jO l0 0 l1 2) 3) [cC l0,aC l1] (dG (gI l1 2) l0 0 (lr ((gI (jO l0 0 l1 2) 0) != 1) [cC l0,aC l1] (bO (G JJ [cC l0,cL l1 2]) λ_ o4=>lr (cE o4) [cC l0,aC l1] (bO (G xX [cM l0 10,cL l1 2]) λ_ o5=>fN (dP o5) (oC (cC l0) (aC l1) []) (cC l0) (aC l1))))))):aA):=ac
def azf:Zr G N [cu i0]=(lu (i0==11) cV (av (i0==15)) []:aA):=ac
def ayR:Zi G N [cu i0]=(lu (i0==12) cV (av (i0==13)) []:aA):=ac
def aEp:bG CX EE G N M8 [aa l0,aa l1]=(ca ((gI l1 0)==2) (bO (G abF [cC l0,aC l1]) λ_ o1=>nC o1) ((gI l1 0)==4) (gT l1 12 (bO (G Sd [cC l0,nZ l1 12 0]) λ_ o2=>nC o2)) (ca ((gI l1 0)==5) (gT l1 12 (bO (G Sd [cC l0,nZ l1 12 0]) λ_ o3=>nC o3)) ((gI l1 0)==6) (bO (Zy G N [cC l0,aC l1]) λq6 o6=>iL q6 (gT (bu o6) 12 (bO (G M9 [uk o6,nZ (bu o6) 12 0]) λ_ o7=>gU (dP o7) (v8 1 (bu o6) 12 (bO (G M9 [uk o6,nZ (bu o6) 12 1]) λ_ o8=>gU (dP o8) (gT (bu o6) 12 (bO (G Jr [uk o6,nZ (bu o6) 12 0,rK o6 2]) λ_ o9=>gU (dP o9) (v8 1 (bu o6) 12 (bO (G Jr [uk o6,nZ (bu o6) 12 1,rK o6 2]) λ_ cO=>nC cO)))))))) o6 []) (ca ((gI l1 0)==7) (gU (jP 1 l1 1) (gU (dJ (jF l1) 8192) (bO (G xX [cM l0 7,mC l1]) λ_ dQ=>pC (cE dQ)))) ((gI l1 0)==8) (bO (G xX [cM l0 6,mC l1]) λ_ cq=>nC cq) (bif (gI l1 0)==10 then ca (jP 1 l1 1) (ca (jP (jF l1) l0 1) cV ((gI l1 1)==0) (j8 (iN l0 13)) fm) ((gI l1 1)==0) (j8 (iN l0 13)) fm else bO (Zr G N [jW l1]) λ_ fr=>sW fr 0 (gT l1 12 (bO (G M9 [cC l0,nZ l1 12 0]) λ_ dr=>nC dr)) (bO (Zi G N [jW l1]) λ_ dI=>sW dI 0 (gT l1 14 (bO (G M4 [cC l0,fg (jk l1 14 0)]) λ_ jU=>nC jU)) (ca ((gI l1 0)==14) (sW l1 6 (gT l1 14 (bO (G M4 [cC l0,fg (jk l1 14 0)]) λ_ dO=>gU (dP dO) (bO (G xX [cM l0 9,cL l1 4]) λ_ jI=>gU (dP jI) (gU (jP 0 l1 5) (dG (gI l1 4) l0 3 (pC (ig (gI l1 5) (jO l0 3 l1 4) 2))))))) (gT l1 14 (bO (G M4 [cC l0,fg (jk l1 14 0)]) λ_ ma=>gU (dP ma) (bO (G aGm [cC l0,cL l0 5,cL l1 5]) λ_ zG=>nC zG)))) ((gI l1 0)==16) (bO (G akv [cC l0,aC l1,iI 2]) λ_ mJ=>gU (dP mJ) (bO (G aHe [cC l0,aC l1]) λ_ DD=>nC DD)) (ca ((gI l1 0)==17) (bO (G akv [cC l0,aC l1,iI 3]) λ_ LI=>gU (dP LI) (gU (jP 0 l1 4) (kg (gI l1 4) (ja l0 3) (gU (jP 0 l1 5) (dG (gI l1 4) l0 3 (pC (ig (gI l1 5) (jO l0 3 l1 4) 2)))) fm))) ((gI l1 0)==18) (bO (G aHY [cC l0,cL l1 5]) λ_ mY=>nC mY) (ca ((gI l1 0)==20) (gU (jP 0 l1 4) (kg (gI l1 4) (ja l0 3) (bO (G xX [cM l0 9,cL l1 4]) λ_ LH=>gU (cE LH) (bif (ln (gR l0 9))==0 then cV else dG (gI l1 4) l0 3 (pC ((ln (gR (jO l0 3 l1 4) 2))==0)))) fm)) ((gI l1 0)==21) (bO (G aD5 [cC l0,aC l1]) λ_ DC=>nC DC) (bif (gI l1 0)==22 then gU (dJ 1 (ja l1 16)) (gU (dJ (ja l1 16) 32) (bO (G Te [cM l1 16,iI 1,iE ((ln (gR l0 2))- 1)]) λ_ LG=>nC LG))else cV)))))))):aA):=ac
def aFG:bG CX EE G N Ni [aa l0]=(j8 (gk vP l0 6 eM [(13,dp),(14,iI (-1))]):aA):=ac
def aHr:abL G N [aa l0,aa l1]=(ca (ig 256 l1 18) (kJ (iI (-1)) [cC l0,aC l1]) (ig 16 l1 19) (kJ (iI (-1)) [cC l0,aC l1]) (bO (G Te [cM l1 16,iE ((gI l0 5)+1),iE ((ln (gR l0 2))- 1)]) λ_ o1=>fN (cE o1) (kJ (iI (-1)) [cC l0,aC l1]) (cC l0) (aC l1)):aA):=ac
def akl:abb G N [iI i0,iI i1,aa l2]=(nI i1 (ja l2 18) (kc (lR i0) (aC l2) [] (kJ (aC l2) [])) (aC l2) []:aA):=ac
def aky:JH G N (n+1) [iI i0,iI i1,aa l2,aa l3]=(bO (abb G N [iI i0,iI i1,aC l3]) λq3 o3=>fS q3 (bO (G Ni [cC l2]) λ_ o4=>bO (G Ni [cC l2]) λ_ o5=>dG i1 (bP o3) 18 (bO (G A3 [gk vP (bP o4) 11 eD [],aC (dD (bP o3) 18 i1),iI i0]) λ_ o6=>bif vd o6 then dG i1 (bP o3) 18 (bO (G A3 [gk vP (bP o5) 12 eD [],pQ 21 (dD (bP o3) 18 i1),eU o6]) λ_ o7=>JH G N n [eU o7,bZ i1,cC l2,um o3])else JH G N n [eU o6,bZ i1,cC l2,um o3])) (iI i0) [cC l2,um o3]:aA):=ac
def aGu:ak5 G N [iI i0,aa l1,aa l2]=(bO (JH G N N (iI i0::dS (cC l1) (aC l2) [])) λ_ o8=>jG (eU o8) (cC (bu o8)) (aC (dN o8)) []:aA):=ac
def aGt:ak4 G N [iI i0,aa l1,aa l2]=(eL (lR i0) (gT l2 17 (bO (G A3 [cC l1,aC (jk l2 17 0),iI i0]) λ_ cO=>jG (eU cO) (cC l1) (aC l2) [])) (iI i0) (cC l1) (aC l2) []:aA):=ac
def aj4:aaO G N [iI i0,iI i1,aa l2]=(nI i1 (ja l2 19) (kc (lR i0) (aC l2) [] (kJ (aC l2) [])) (aC l2) []:aA):=ac
def aCk:aas G N [iI i0,aa l1,aa l2,aa l3]=(bif (ln (gR l3 0))==0 then bif i0 != (aU ((ln (gR l2 19))- 1))then kJ (iI (-1)) [cC l1,aC l2,sO l3]else bO (G JO [iD l3,iI 1,mC l1]) λ_ fr=>eL (cE fr) (kJ (iI (-1)) [cC l1,aC l2,sO l3]) (cC l1) (aC l2) (sO l3) []else bO (G JO [iD l3,iI 1,mC l1]) λ_ dr=>eL (cE dr) (kJ (iI (-1)) [cC l1,aC l2,sO l3]) (cC l1) (aC l2) (sO l3) []:aA):=ac
def ajh:MT G N (n+1) [iI i0,aa l1,aw r2]=(nI i0 (ja l1 0) (dG i0 l1 0 (bO (G Tr [eU (dD l1 0 i0),ba r2]) λ_ jU=>nj (dP jU) (-1) (sO l1) [] (dG i0 l1 0 (o0 (((gR jU 1).length +1)*8) (MT G N n [bZ i0,sO l1,ba ((gR jU 1)++([[eU (dD l1 0 i0)]]:aE))]))))) (sO l1) [ba r2]:aA):=ac
def ajS:Nc G N (n+1) [iI i0,iI i1,aa l2,aa l3,aw r4]=(bO (aaO G N [iI i0,iI i1,aC l3]) λuJ cq=>bif gJ uJ then dG i1 (bP cq) 19 (bO (aas G N [iI i1,cC l2,um cq,sO (dD (bP cq) 19 i1)]) λyt dI=>fS yt (bO (MT G N N (dS (sO (dN dI)) (ba r4) [])) λAu dO=>lq (gJ Au) (eU dO) (uk dI) [qt dI] (bO (G A3 [uk dI,pQ 1 (bP dO),iI i0]) λ_ jI=>Nc G N n [eU jI,bZ i1,uk dI,qt dI,cM dO 1])) (eU dI) [cC (bu dI),aC (dN dI)])else kJ (iI i0) [cC l2,um cq]:aA):=ac
def aIQ:bG CX EE G N ace [aa l0,aa l1,iI i2]=(bO (abL G N [cC l0,aC l1]) λq2 o2=>fS q2 (bO (ak5 G N [iI i2,uk o2,qt o2]) λ_ o9=>bO (ak4 G N [eU o9,gk vP (bu o9) 14 (iI (-1)) [],aC (dN o9)]) λ_ dQ=>bO (Nc G N N (eU dQ::dS (gk vP (bu dQ) 13 eD []) (aC (dN dQ)) [eM])) λIe ma=>fS Ie (j8 (eU ma)) (eU ma) []) (eU o2) []:aA):=ac
end
noncomputable section
variable {G:Nat->aq->Option UO} {N n:Nat} {i0 i1 i2:Int} {l0 l1 l2 l3:aq} {r0 r1 r2 r3:aE}
def aEr:bG CX EE G N aaJ [aa l0,iI i1]=(bO (G Ni [cC l0]) λ_ o1=>a8 (Ir (gR l0 9))<|o0 (((([]:aE)++(gR l0 9)).length +1)*8) (dh (kh aKt (bP o1) 9 0 []) (ba ((([]:aE)++(gR l0 9))++([[iI i1]]:aE)))):aA):=ac
def aH4:ab8 G N [iI i0,aa l1,aa l2]=(oZ i0 1 (kJ (iI (-1)) [cC l1,aC l2]) (jP 64 l1 15) (kJ (iI (-1)) [cC l1,aC l2]) (bO (G acg [aC l2]) λ_ o1=>bif cE o1 then kJ (iI (-1)) [cC l1,aC l2]else bO (G aaI [cC l1,aC l2]) λ_ o2=>bif cE o2 then kJ (iI (-1)) [cC l1,aC l2]else bO (G M8 [cC l1,aC l2]) λ_ o3=>fN (cE o3) (kJ (iI (-1)) [cC l1,aC l2]) (cC l1) (aC l2)):aA):=ac
def akZ:abM G N [iI i0,aa l1,aa l2]=(ca ((gI l2 0)==9) (bO (G ace [cC l1,aC l2,iI i0]) λ_ o5=>kJ (eU o5) [cC l1,aC l2]) ((gI l2 0)==19) (bO (G aIG [cC l1,aC l2,iI i0]) λ_ o6=>kJ (eU o6) [cC l1,aC l2]) (ca ((gI l2 0)==7) (a8 (Ir (gR l1 6)) (a8 (Im (([]:aE)++(gR l1 6)) ([[mC l2]]:aE)) (a8 (Ir (gR l1 7)) (a8 (Im (([]:aE)++(gR l1 7)) ([[mC l2]]:aE)) (dh (gk vP l1 6 (ba ((([]:aE)++(gR l1 6))++([[mC l2]]:aE))) [(7,ba ((([]:aE)++(gR l1 7))++([[mC l2]]:aE)))]) (aC l2)))))) ((gI l2 0)==6) (a8 (Ir (gR l1 10)) (a8 (Im (([]:aE)++(gR l1 10)) ([[cL l2 2]]:aE)) (dh (gk vP l1 10 (ba ((([]:aE)++(gR l1 10))++([[cL l2 2]]:aE))) []) (aC l2)))) (dh (cC l1) (aC l2))):aA):=ac
def akm:abf G N [iI i0,iI i1,aa l2]=(nI i1 (ja l2 17) (kc (lR i0) (aC l2) [] (kJ (aC l2) [])) (aC l2) []:aA):=ac
def aEc:aaR G N [iI i0,aa l1,aa l2,aa l3]=(eL (i0==0) (eL ((gI l2 0)==18) (bO (G aCi [cC l1,cL l2 5]) λ_ o9=>jG (cC l1) (aC l2) (gk vP (bP o9) 8 (cM o9 1) []) []) (cC l1) (aC l2) (cC l3) []) (cC l1) (aC l2) (cC l3) []:aA):=ac
def aDf:aaA G N [iI i0,aa l1]=(fN (i0==0) (fN ((gI l1 0)==20) (dh eD (aC l1)) (av ((gI l1 0)==17)) (aC l1)) dp (aC l1):aA):=ac
def aEb:aaQ G N [iI i0,aa l1,aa l2,aa l3]=(bO (aaA G N [iI i0,aC l2]) λ_ dQ=>eL (dP dQ) (bO (G aaJ [cC l1,rK dQ 4]) λ_ cq=>jG (cC l1) (qt dQ) (gk vP (bP cq) 9 (cM cq 1) []) []) (cC l1) (qt dQ) (cC l3) []:aA):=ac
def aDe:aaz G N [iI i0,aa l1,aa l2]=(lq ((gI l1 0)==16) (aC l1) (gk vP l2 14 (iI (-1)) []) [] (ca ((gI l1 0)==17) (oZ 0 i0 (dh (aC l1) (gk vP l2 14 (iI (-1)) [])) ((gI l1 0)==18) (fN (cH 0 i0) (dh (aC l1) (gk vP l2 14 (iI (-1)) [])) (aC l1) (cC l2)) (dh (aC l1) (cC l2))) ((gI l1 0)==18) (fN (cH 0 i0) (dh (aC l1) (gk vP l2 14 (iI (-1)) [])) (aC l1) (cC l2)) (dh (aC l1) (cC l2))):aA):=ac
def akA:Gv G N (n+1) [iI i0,iI i1,aa l2,aa l3]=(bO (abf G N [iI i0,iI i1,aC l3]) λq8 o8=>fS q8 (bO (aaR G N [iI i1,cC l2,um o8,cC l2]) λ_ cO=>bO (aaQ G N [iI i1,uk cO,qt cO,cC (dN cO)]) λ_ fr=>bO (aaz G N [iI i1,qt fr,cC (dN fr)]) λ_ dr=>dG i1 (bP dr) 17 (bO (G A3 [cC (bu dr),aC (dD (bP dr) 17 i1),iI i0]) λ_ dI=>Gv G N n [eU dI,bZ i1,uk fr,um dr])) (iI i0) [cC l2,um o8]:aA):=ac
def aJw:bG CX EE G N A3 [aa l0,aa l1,iI i2]=(bO (ab8 G N [iI i2,cC l0,aC l1]) λq4 o4=>fS q4 (bO (abM G N [iE (i2- 1),gk vP (bP o4) 15 (iE ((gI (bP o4) 15)+1)) [],qt o4]) λq7 o7=>fS q7 (bO (Gv G N N ((iE (i2- 1))::dS (uk o7) (qt o7) [])) λ_ jU=>j8 (eU jU)) (eU o7) []) (eU o4) []:aA):=ac
def ajg:MS G N (n+1) [iI i0,aw r1,aa l2]=(fN (ig i0 l2 16) (dG i0 l2 16 (jN (nq l2 16 i0) r1 (gI (dD l2 16 i0) 0).toNat r1.length (jN (nq l2 16 i0) r1 (gI (dD l2 16 i0) 0).toNat r1.length (MS G N n [bZ i0,ba (r1.set (gI (dD l2 16 i0) 0).toNat (setAt (bp r1 (nq l2 16 i0)) 0 [iE ((gI (bp r1 (nq l2 16 i0)) 0)+1)])),aC l2])))) (ba r1) (aC l2):aA):=ac
def aCj:aar G N [aw r0,aa l1]=(fN ((gI l1 0)==9) (bO (MS G N N (dS (ba r0) (aC l1) [])) λ_ o2=>dh (iD o2) (qt o2)) (ba r0) (aC l1):aA):=ac
def ajr:Sk G N (n+1) [iI i0,aw r1,dv r2]=(fN (cH i0 (ln r2)) (jN i0 r2 i0.toNat r2.length (bO (G SA [aC (bp r2 i0),ba r1]) λ_ o4=>Sk G N n [bZ i0,iD o4,da r2])) (ba r1) (da r2):aA):=ac
def aFE:bG CX EE G N SA [aa l0,aw r1]=(bO (G NL [aC l0]) λ_ o1=>bO (aar G N [ba r1,aC l0]) λ_ o3=>bO (Sk G N N (dS (iD o3) (pB o1 0) [])) λ_ o5=>j8 (iD o5):aA):=ac
def aIO:acr G N [aa l0]=(bO (G abE [lK l0 0]) λ_ o1=>ca (cE o1) (iU (cz l0)) (cH (jF l0) 4) (iU (cz l0)) (oZ 64 (jF l0) (iU (cz l0)) (cH (ja l0 2) 1) (iU (cz l0)) (ca (ig 32 l0 2) (iU (cz l0)) (ig 32 l0 3) (iU (cz l0)) (j8 (cz l0)))):aA):=ac
def akW:ND G N (n+1) [iI i0,aa l1]=(nI i0 (ja l1 2) (dG i0 l1 2 (oZ (nq l1 2 i0) 0 (dh dp (cz l1)) (cH 31 (nq l1 2 i0)) (dh dp (cz l1)) (ca (ig 8 (dD l1 2 i0) 1) (dh dp (cz l1)) (cH (gI (dD l1 2 i0) 23) 0) (dh dp (cz l1)) (jS (cH 2147483647 (gI (dD l1 2 i0) 23)) (cz l1) [] (ND G N n [bZ i0,cz l1]))))) (cz l1) []:aA):=ac
def aH5:alX G N [aa l0]=(bO (ND G N N (nF (cz l0) [])) λq3 o3=>fS q3 (rJ o3 [rL o3]) (nD o3) []:aA):=ac
def aFy:abj G N [aa l0]=(oZ (mq l0) 0 (iU (qj l0)) (cH 31 (mq l0)) (iU (qj l0)) (lu (ig 8 l0 2) (iU (qj l0)) (qj l0) []):aA):=ac
def ajX:Nd G N (n+1) [iI i0,aa l1,aa l2]=(nI i0 (ja l2 2) (dG i0 l2 2 (bO (G Es [oD (lK l1 0) (qp []) [jx l2 2],bK (dD l2 2 i0)]) λ_ o7=>jS (nJ o7 1) (cz l1) [qj l2] (bO (G A1 [mT o7]) λ_ o8=>jS (cE o8) (cz l1) [qj l2] (dG i0 l2 2 (bO (G Nx [lK l1 0,cM l2 1,bK (dD l2 2 i0)]) λ_ o9=>jS (cE o9) (cz l1) [qj l2] (Nd G N n [bZ i0,cz l1,qj l2])))))) (cz l1) [qj l2]:aA):=ac
def akE:Nv G N (n+1) [iI i0,aa l1]=(nI i0 (ja l1 3) (dG i0 l1 3 (bO (abj G N [qj (dD l1 3 i0)]) λq6 o6=>iL q6 (bO (Nd G N N (dS (cz l1) (qj (bP o6)) [])) λuK cO=>lq (gJ uK) (eK cO) (rL cO) [] (Nv G N n [bZ i0,nD cO])) o6 [cz l1])) (cz l1) []:aA):=ac
def aHs:alu G N [aa l0]=(bO (Nv G N N (nF (cz l0) [])) λyu dQ=>fS yu (rJ dQ [rL dQ]) (nD dQ) []:aA):=ac
def akD:Nu G N (n+1) [sN r0,iI i1,iI i2,aa l3]=(fN (ig i2 l3 2) (fN (lR i1) (dG i2 l3 2 (bO (G A3 [oB (lK l3 0) l3 (eW Eg l3 2::eW JU l3 3::mS r0::iI i2::eM::eM::eM::eM::eM::dp::dp::dp::(iI (-1))::nv []),pQ 2 (dD l3 2 i2),iI i1]) λ_ fr=>Nu G N n [mS r0,eU fr,bZ i2,cz l3])) (iI i1) (cz l3)) (iI i1) (cz l3):aA):=ac
def aGE:ak9 G N [iI i0,aa l1,sN r2]=(bO (Nu G N N (mS r2::iI i0::nF (cz l1) [])) λ_ dr=>jG (eU dr) (rL dr) (mS r2) []:aA):=ac
def akg:Nq G N (n+1) [iI i0,aa l1,aw r2]=(fN (ig i0 l1 2) (dG i0 l1 2 (bO (G SA [pQ 2 (dD l1 2 i0),ba r2]) λ_ jU=>Nq G N n [bZ i0,cz l1,iD jU])) (cz l1) (ba r2):aA):=ac
def akf:Np G N (n+1) [iI i0,aa l1,aw r2]=(nI i0 (ja l1 2) (jN i0 r2 i0.toNat r2.length (jS ((gI (bp r2 i0) 0) != 1) (cz l1) [ba r2] (Np G N n [bZ i0,cz l1,ba r2]))) (cz l1) [ba r2]:aA):=ac
def aJ5:bG CX EE G N Ue [aa l0]=(bO (acr G N [cz l0]) λq2 o2=>iL q2 (gT (bP o2) 2 (kg 0 (ja (jk (bP o2) 2 0) 1) fm (bO (alX G N [nD o2]) λq4 o4=>iL q4 (bO (G acf [nD o4]) λ_ o5=>pU (cE o5) (bO (alu G N [nD o4]) λuJ cq=>iL uJ (bO (ak9 G N [iI 8192,nD cq,nW o5 1]) λ_ dI=>kg (mq dI) 0 fm (a8 (((lR (ja (bu dI) 2))&&(dJ (ja (bu dI) 2) (ja (bu dI) 2)))&&(dJ ((ln (gR (bu dI) 2))*8) 140737488355328)) (bO (Nq G N N (dS (rL dI) (aw (List.replicate (ln (gR (bu dI) 2)).toNat (nv []:Row))) [])) λ_ dO=>bO (Np G N N [iI 1,nD dO,cM dO 1]) λQr jI=>kc (gJ Qr) (eK jI) [] (gT jI 1 (oG 0 (gR jI 1).length (pC ((gI (jk jI 1 0) 0)==0))))))) cq [])) o4 []))) o2 []:aA):=ac
def ajW:Sy G N (n+1) [iI i0,dv r1,dv r2]=(fN (cH i0 (ln r1)) (jN i0 r1 i0.toNat r1.length (bO (G Th [aC (bp r1 i0),da r2]) λ_ o2=>Sy G N n [bZ i0,da r1,pB o2 0])) (da r1) (da r2):aA):=ac
def aIf:bG CX EE G N Th [aa l0,dv r1]=(o0 ((r1.length+1)*272) (bO (G NL [aC l0]) λ_ o1=>bO (Sy G N N (dS (pB o1 0) (da (r1++([EM 0 l0]:aE))) [])) λ_ o3=>j8 (pB o3 1)):aA):=ac
def akX:S7 G N (n+1) [iI i0,aa l1,dv r2]=(fN (ig i0 l1 2) (dG i0 l1 2 (bO (G Th [pQ 2 (dD l1 2 i0),da r2]) λ_ o2=>S7 G N n [bZ i0,cz l1,pB o2 0])) (cz l1) (da r2):aA):=ac
def aJ6:bG CX EE G N adt [aa l0]=(bO (G Ue [cz l0]) λ_ o1=>kc (cE o1) (da dL) [] (bO (S7 G N N (dS (cz l0) (da dL) [])) λ_ o3=>j8 (pB o3 1)):aA):=ac
def ai6:R6 G N [iI i0,iI i1,mg r2]=(ca (i0 != i1) (iU (nY r2)) (!((i0 != 0)==((ln r2)==0))) (iU (nY r2)) (j8 (nY r2)):aA):=ac
def aiJ:RK G N (n+1) [iI i0,iI i1,aa l2,aw r3]=(fN (cH i1 i0) (jN i1 r3 i1.toNat r3.length (dG i1 l2 2 (bO (G NV [pQ 2 (dD l2 2 i1)]) λ_ o8=>jN (aU (i1+1)) r3 (aU (i1+1)).toNat r3.length (RK G N n [iI i0,bZ i1,cz l2,ba (r3.set (aU (i1+1)).toNat (setAt (bp r3 (aU (i1+1))) 0 [iE ((gI (bp r3 i1) 0)+(gI o8 0))]))])))) (cz l2) (ba r3):aA):=ac
def azh:RN G N [aa l0,aw r1]=(bO (RK G N N (jx l0 2::dS (cz l0) (ba r1) [])) λ_ o9=>dh (nD o9) (cM o9 1):aA):=ac
def ayh:Y6 G N [mg r0,aa l1]=(oZ (mq l1) 1 (oC (nY r0) (oU l1) []) (cH (ln r0) (mq l1)) (oC (nY r0) (oU l1) []) (kg (jF l1) (-1) (oC (nY r0) (oU l1) []) (jN (aU ((gI l1 0)- 1)) r0 (aU ((gI l1 0)- 1)).toNat r0.length (ca (jP (ja (bp r0 (aU ((gI l1 0)- 1))) 6) l1 1) (oC (nY r0) (oU l1) []) ((ln (gR l1 2))==0) (oC (nY r0) (oU l1) []) (dh (nY r0) (oU l1))))):aA):=ac
def axN:YX G N [iI i0,aw r1,aa l2]=(jN (mq l2) r1 (gI l2 0).toNat r1.length (kg i0 (lJ r1 (mq l2)) (oC (ba r1) (oU l2) []) (jN (aU ((gI l2 0)+1)) r1 (aU ((gI l2 0)+1)).toNat r1.length (fN (dJ (lJ r1 (aU ((gI l2 0)+1))) i0) (oC (ba r1) (oU l2) []) (ba r1) (oU l2)))):aA):=ac
end
noncomputable section
variable {G:Nat->aq->Option UO} {N n:Nat} {i0 i1 i2:Int} {l0 l3 l7:aq} {r0 r1 r2 r3 r4 r5 r6:aE}
def aiB:Ca G N (n+1) [aw r0,iI i1,iI i2,mg r3,dv r4,aw r5,aw r6,aa l7]=(mB i2 i1 r0 (bO (YX G N [eU (bp r0 i2),ba r6,oU l7]) λuJ cq=>iL uJ (jN (lJ r0 i2) r5 (gI (bp r0 i2) 0).toNat r5.length (jN (lJ r0 i2) r5 (gI (bp r0 i2) 0).toNat r5.length (jN (lJ r0 i2) r4 (gI (bp r0 i2) 0).toNat r4.length (oZ (jF (bu cq)) 0 (ca ((gI (mE r4 r0 i2) 0) != 15) (fR dp (nY r3) (da r4) (ba (r5.set (gI (bp r0 i2) 0).toNat (setAt (mE r5 r0 i2) 0 [iE ((gI (mE r5 r0 i2) 0)+1)]))) [iD cq,oU (bu cq)]) (nJ (mE r4 r0 i2) 8) (fR dp (nY r3) (da r4) (ba (r5.set (gI (bp r0 i2) 0).toNat (setAt (mE r5 r0 i2) 0 [iE ((gI (mE r5 r0 i2) 0)+1)]))) [iD cq,oU (bu cq)]) (ca ((ln (gR (bu cq) 2)) != 1) (fR dp (nY r3) (da r4) (ba (r5.set (gI (bp r0 i2) 0).toNat (setAt (mE r5 r0 i2) 0 [iE ((gI (mE r5 r0 i2) 0)+1)]))) [iD cq,oU (bu cq)]) (jP 0 (bu cq) 1) (jS ((gI (mE r4 r0 i2) 0) != 20) (nY r3) [da r4,ba (r5.set (gI (bp r0 i2) 0).toNat (setAt (mE r5 r0 i2) 0 [iE ((gI (mE r5 r0 i2) 0)+1)])),iD cq,oU (bu cq)] (jN (aU ((gI (bu cq) 0)- 1)) r3 (aU ((gI (bu cq) 0)- 1)).toNat r3.length (dG (jF (bu cq)) (bp r3 (aU ((gI (bu cq) 0)- 1))) 6 (jS ((gI (mE r4 r0 i2) 4) != (gI (jO (bp r3 (aU ((gI (bu cq) 0)- 1))) 6 (bu cq) 1) 0)) (nY r3) [da r4,ba (r5.set (gI (bp r0 i2) 0).toNat (setAt (mE r5 r0 i2) 0 [iE ((gI (mE r5 r0 i2) 0)+1)])),iD cq,oU (bu cq)] (Ca G N n [ba r0,iI i1,bZ i2,nY r3,da r4,ba (r5.set (gI (bp r0 i2) 0).toNat (setAt (mE r5 r0 i2) 0 [iE ((gI (mE r5 r0 i2) 0)+1)])),iD cq,oU (bu cq)]))))) (Ca G N n [ba r0,iI i1,bZ i2,nY r3,da r4,ba (r5.set (gI (bp r0 i2) 0).toNat (setAt (mE r5 r0 i2) 0 [iE ((gI (mE r5 r0 i2) 0)+1)])),iD cq,oU (bu cq)]))) (jP 0 (bu cq) 1) (jS ((gI (mE r4 r0 i2) 0) != 20) (nY r3) [da r4,ba (r5.set (gI (bp r0 i2) 0).toNat (setAt (mE r5 r0 i2) 0 [iE ((gI (mE r5 r0 i2) 0)+1)])),iD cq,oU (bu cq)] (jN (aU ((gI (bu cq) 0)- 1)) r3 (aU ((gI (bu cq) 0)- 1)).toNat r3.length (dG (jF (bu cq)) (bp r3 (aU ((gI (bu cq) 0)- 1))) 6 (jS ((gI (mE r4 r0 i2) 4) != (gI (jO (bp r3 (aU ((gI (bu cq) 0)- 1))) 6 (bu cq) 1) 0)) (nY r3) [da r4,ba (r5.set (gI (bp r0 i2) 0).toNat (setAt (mE r5 r0 i2) 0 [iE ((gI (mE r5 r0 i2) 0)+1)])),iD cq,oU (bu cq)] (Ca G N n [ba r0,iI i1,bZ i2,nY r3,da r4,ba (r5.set (gI (bp r0 i2) 0).toNat (setAt (mE r5 r0 i2) 0 [iE ((gI (mE r5 r0 i2) 0)+1)])),iD cq,oU (bu cq)]))))) (Ca G N n [ba r0,iI i1,bZ i2,nY r3,da r4,ba (r5.set (gI (bp r0 i2) 0).toNat (setAt (mE r5 r0 i2) 0 [iE ((gI (mE r5 r0 i2) 0)+1)])),iD cq,oU (bu cq)]))))) cq [nY r3,da r4,ba r5,cM cq 1,oU (dN cq)]) (nY r3) [da r4,ba r5,ba r6,oU l7]:aA):=ac
def aiG:MH G N (n+1) [iI i0,iI i1,mg r2,dv r3,aw r4,aw r5,lP r6]=(nI i1 i0 (jN i1 r6 i1.toNat r6.length (bO (Y6 G N [nY r2,oU (bp r6 i1)]) λyu dQ=>iL yu (bO (Ca G N N ((cM (bu dQ) 2)::(jx (bu dQ) 2)::dS (eW zU dQ 0) (da r3) [ba r4,ba r5,oU (bu dQ)])) λAw fr=>lq (gJ Aw) (eK fr) (eW zU fr 1) [pB fr 2,cM fr 3,cM fr 4,lP r6] (MH G N n [iI i0,bZ i1,eW zU fr 0,pB fr 1,cM fr 2,cM fr 3,lP r6])) dQ [eW zU dQ 1,da r3,ba r4,ba r5,lP r6])) (nY r2) [da r3,ba r4,ba r5,lP r6]:aA):=ac
def azg:RM G N [mg r0,lP r1,dv r2,aw r3,aw r4]=(bO (MH G N N (pS r1::dS (nY r0) (da r2) [ba r3,ba r4,lP r1])) λAv dr=>fS Av (rJ dr [eW zU dr 1,eW Gx dr 5,pB dr 2,cM dr 3,cM dr 4]) (eW zU dr 0) [eW Gx dr 4,pB dr 1,cM dr 2,cM dr 3]:aA):=ac
def ayg:Y5 G N [iI i0,iI i1,aw r2,aa l3]=(a8 (cH 1 (ln r2))<|oG 1 r2.length (eL (dJ (mq (gA r2 1)) i0) (ca ((gI l3 0)==20) (jG (iI 1) (ba r2) (aC l3) []) ((gI l3 0)==15) (jG (iI 1) (ba r2) (aC l3) []) (jG (iI i1) (ba r2) (aC l3) [])) (iI i1) (ba r2) (aC l3) []):aA):=ac
def aiF:MG G N (n+1) [iI i0,iI i1,aw r2,aw r3,dv r4]=(nI i1 i0 (jN i1 r4 i1.toNat r4.length (bO (Y5 G N (iI i1::dS (ba r3) (aC (bp r4 i1)) [])) λ_ jU=>jN i1 r2 i1.toNat r2.length (jS ((gI (bp r2 i1) 0) != (gI jU 0)) (ba r2) [cM jU 1,da r4] (MG G N n [iI i0,bZ i1,ba r2,cM jU 1,da r4])))) (ba r2) [ba r3,da r4]:aA):=ac
def aCr:bG CX EE G N aak [aa l0]=(bO (G ach [cz l0]) λ_ o1=>sW o1 0 (bO (G NW []) λ_ o2=>nC o2) (bO (G JC [cz l0]) λ_ o3=>bO (G JB [cz l0]) λ_ o4=>bO (R6 G N [eU o3,eU o4,eW zU o3 1]) λq5 o5=>iL q5 (bif (gI o3 0) != 0 then gU ((ln (gR o4 1))==0) (bO (G NW []) λ_ o6=>nC o6)else bO (G adt [cz l0]) λ_ o7=>a8 (((lR (ja o7 0))&&(dJ (ja o7 0) (ja o7 0)))&&(dJ ((ln (gR o7 0))*8) 140737488355328))<|a8 (((lR (aU ((ln (gR l0 2))+1)))&&(dJ (aU ((ln (gR l0 2))+1)) (aU ((ln (gR l0 2))+1))))&&(dJ ((aU ((ln (gR l0 2))+1))*8) 140737488355328))<|bO (RN G N [cz l0,aw (List.replicate (aU ((ln (gR l0 2))+1)).toNat (nv []:Row))]) λ_ cO=>bO (RM G N [eW zU o5 0,eW Gx o4 1,pB o7 0,aw (List.replicate (ln (gR o7 0)).toNat (nv []:Row)),cM cO 1]) λyt dI=>iL yt (bO (MG G N N (jx dI 2::dS (cM dI 3) (cM dI 4) [pB dI 2])) λAu dO=>kc (gJ Au) (eK dO) [] (bO (G NW []) λ_ jI=>nC jI)) dI []) o5 []):aA):=ac
end
end Go.Proofs.B
namespace Go.ah
def afC{p:Prop}(h:p:=by
 rw [gf hi,ix hi hl];exact ax (λhc=>ab (h1 hc)) h2):p:=h
def VZ{p:Prop}(h:p:=by simp only [yf,hc,hd,he,hf,bT,bM]):p:=h
def apV{p:Prop}(h:p:=by
 unfold pg;cases(List.range l.length).any (yf l lo hi)<;>exact aD):p:=h
def apM{p:Prop}(h:p:=by rw [zi]at he;simp only [yf,hc,hd,he,bM]):p:=h
def ao9{p:Prop}(h:p:=by simp only [yf,hc,hd,bT,bM]):p:=h
def ao4{p:Prop}(h:p:=by simp only [tW,hc,hd,bT,bM]):p:=h
end Go.ah
namespace Go.ah
def bM:=@cond_false
def GR:=@List.take_succ
def ade:=@List.range'_succ
def TU:=@Bool.or_false
end Go.ah
namespace Go.Proofs.B
open Go Go.ah
section
variable{i:Nat}{l:cj}
def ei(l:cj)(n:Int):Bool:=l.any (·==n)
def aLG(l:cj)(n:Int):l.any (n== ·)=ei l n:=by
 unfold ei;congr 1;funext x;exact BEq.comm
def yP(n:Int)(hl:l.length<=mx):Ev wH [aw (ints l),iI n] (0,[av (ei l n)]):=by
 have h:=scan (l:=l) (p:=(n== ·)) (hit:=λi=>(0,[iI (i:Int)])) (done:=(1,[])) (LF:=λi N m=>R3 (FU CX EE N) N m [aw (ints l),iI n,iI (ln (ints l)),iI (i:Int)])
  (aY ai1 (au dw aD))
  λi hi r h1 h2=>aY ai1<|aV (cZ hi)<|az (cw hi)<|afC
 rw [aLG]at h;rcases h with⟨h1,h2⟩|⟨h1,i,hi,h2⟩
 ·refine bj ai7 (ae (o:=(0,[iI (-1)])) (bj ajx (ae h2.diag aD)) (ab ?_));rw [h1];rfl
 ·refine bj ai7 (ae (o:=(0,[iI (i:Int)])) (bj ajx (ae h2.diag aD)) (ab ?_));rw [h1];simp [gI,AV.toI]
def Bw(a b:cj):Bool:= !(a.any λx=> !ei b x)
def yf(l:cj)(lo hi:Int)(i:Nat):Bool:=bif decide (l.getD i 0<lo)then true else bif decide (hi<l.getD i 0)then true else bif decide (0<i)then decide (l.getD i 0<=l.getD (i- 1) 0)else false
def pg(l:cj)(lo hi:Int):Bool:= !(List.range l.length).any (yf l lo hi)
def pr{n:Nat}(h:i<n)(hn:n<=mx)(h0:decide ((0:Int)<(i:Int))=true):aU ((i:Int)- 1)=((i- 1:Nat):Int):=by
 have:0<i:=by simpa using h0
 simp only [mx]at hn;exact zb
def zi:decide ((0:Int)<(i:Int))=decide (0<i):=by
 cases i with
 |zero=>rfl
 |succ n=>simp
def W0(lo hi:Int)(hl:l.length<=mx):Ev JK [aw (ints l),iI lo,iI hi] (0,[av (pg l lo hi)]):=by
 have h:=Hl (m:=l.length) (p:=yf l lo hi) (hit:=(0,[aT])) (done:=(1,[])) (LF:=λi N m=>Nh (FU CX EE N) N m [aw (ints l),iI lo,iI hi,aw (ints l),iI (ln (ints l)),iI (i:Int)])
  (aY aj3 (au dw aD))
  λi h r h1 h2=>aY aj3<|aV (cZ h)<|az (cw h)<|by
   rw [pO h,ix h hl];refine ax (λhc=>ab (h1 (by simp only [yf,hc,bT]))) λhc=>ax (λhd=>ab (h1 (ao9))) λhd=>ax (λhe=> ?_) λhe=>h2 (apM);rw [pr h hl he];have DV:i- 1<l.length:=by omega
   rw [pO DV];rw [zi]at he;exact az (cw DV)<|ax (λhf=>ab (h1 (VZ))) λhf=>h2 (VZ)
 refine bj aHy (ae h.diag ?_);exact apV
def Gz{k:IntKind}(es:List (AV×AV))(a b:Int)(v:AV):ah.ew (ah.lY es (.int k a) v) (.int k b)=if b=a then some v else ah.ew es (.int k b):=by
 induction es with
 |nil=>
  simp only [ah.lY,ah.ew,ah.yy]
  by_cases h:b=a
  ·subst h;simp
  ·have:(b==a)=false:=by simpa using h
   simp [h,this]
 |cons e es ih=>
  obtain⟨x,y⟩:=e;simp only [ah.lY];cases hk:ah.yy (.int k a) x with
  |true=>
   simp only [ah.ew];rw [show ah.yy (.int k b) (.int k a)=(b==a)from rfl]
   by_cases h:b=a
   ·subst h;simp
   ·have h2:(b==a)=false:=by simpa using h
    have h3:ah.yy (.int k b) x=false:=by
     cases x<;>simp only [ah.yy]at hk⊢<;>try cases hk
     have:=eq_of_beq hk;subst this;exact h2
    simp [h,h2,h3]
  |false=>
   simp only [ah.ew];rw [ih]
   by_cases h:b=a
   ·subst h;simp [hk]
   ·simp [h]
def tW(l:cj)(lo hi:Int)(i:Nat):Bool:=bif decide (l.getD i 0<lo)then true else bif decide (hi<l.getD i 0)then true else ei (l.take i) (l.getD i 0)
def oM(l:cj)(lo hi:Int):Bool:= !(List.range l.length).any (tW l lo hi)
def aKW(h:i<l.length)(n:Int):ei (l.take (i+1)) n=(ei (l.take i) n||l.getD i 0==n):=by
 unfold ei;rw [GR,List.any_append];simp [c8 h]
def aGW{p:Nat->Bool}{m:Nat}(h:i<m):(List.range' i (m- i)).any p=(p i||(List.range' (i+1) (m-(i+1))).any p):=by
 rw [show m- i=(m-(i+1))+1 by omega,ade,List.any_cons]
def ags(lo up:Int)(hl:l.length<=mx):Ev Ny [aw (ints l),iI lo,iI up] (0,[av (oM l lo up)]):=by
 have h:=fP (m:=l.length) (P:=λi=>∀es:List (AV×AV),(∀x,ew es (.int .i64 x)=if ei (l.take i) x=true then some (c5)else none)->
  ∃ys,bS Gr [iI lo,iI up,aw (ints l),iI (ln (ints l)),iI (i:Int),.aj 0 (bz es)] (bif (List.range' i (l.length- i)).any (tW l lo up)then(0,[aT,.aj 0 ys])else(1,[.aj 0 ys])))
  (λes _=>⟨bz (aJ (bz es)),aY aj0 (au dw (ab (by simp)))⟩)
  λi hi ih es he=>by
   have hf:=he (l.getD i 0);have step:∀ys r,(tW l lo up i=true->(0,[aT,.aj 0 (bz (aJ (bz es)))])=r)->(tW l lo up i=false->bS Gr [iI lo,iI up,aw (ints l),iI (ln (ints l)),iI ((i+1:Nat):Int),.aj 0 ys] r)->ys=bz (lY es (.int .i64 (l.getD i 0)) (c5))->
    bS Gr [iI lo,iI up,aw (ints l),iI (ln (ints l)),iI (i:Int),.aj 0 (bz es)] r:=by
    intro ys r h1 h2 hy;refine aY aj0<|aV (cZ hi)<|az (cw hi) ?_;rw [pO hi,ix hi hl];refine ax (λhc=>ab (h1 (by simp only [tW,hc,bT]))) λhc=>ax (λhd=>ab (h1 (ao4))) λhd=> ?_;cases hn:ei (l.take i) (l.getD i 0)with
    |true=>
     rw [hn,if_pos rfl]at hf;rw [show ew (aJ (bz es)) (iI (l.getD i 0))=some (c5)by rw [xI];exact hf];exact bh (ab (h1 (by simp only [tW,hc,hd,hn,bM])))
    |false=>
     rw [hn,if_neg (by simp)]at hf;rw [show ew (aJ (bz es)) (iI (l.getD i 0))=none by rw [xI];exact hf];rw [xI,<-hy];exact h2 (by simp only [tW,hc,hd,hn,bM])
   rw [aGW hi];cases hp:tW l lo up i with
   |true=>exact⟨_,step _ _ (λ_=>rfl) (λh=>OV) rfl⟩
   |false=>
    rw [Us];obtain⟨ys,hy⟩:=ih (lY es (.int .i64 (l.getD i 0)) (c5)) λx=>by
     rw [Gz,he,aKW hi]
     by_cases hx:x=l.getD i 0
     ·subst hx;simp
     ·have:(l.getD i 0==x)=false:=by simpa using λh=>hx h.symm
      rw [if_neg hx,this,TU]
    exact⟨ys,step _ _ (λh=>OV) (λ_=>hy) rfl⟩
 obtain⟨ys,h⟩:=h [] λx=>by simp [ew,ei]
 refine bj aHx (ae h.diag ?_);unfold oM;rw [List.range_eq_range',Nat.sub_zero];cases(List.range' 0 l.length).any (tW l lo up)<;>exact aD
end
end Go.Proofs.B
namespace Go.ah
def ow:=@Int.toNat_natCast
def adf:=@List.map_take
end Go.ah
namespace Go.Proofs.B
open Go Go.ah
section
variable{a b l:cj}
def att(s:CA):aF Ef 0 (fa s)=fa s:=V1
def AD(n:Int)(hl:l.length<=mx):Ev xX [aw (ints l),iI n] (0,[av (ei l n)]):=by
 have h:=CQ (l:=l) (p:=(·==n)) (hit:=(0,[c5])) (done:=(1,[])) (LF:=λi N m=>Tw (FU CX EE N) N m [aw (ints l),iI n,iI (i:Int)])
  (aY alL (au dw aD))
  λi hi r h1 h2=>aY alL<|aV (cZ hi)<|az (cw hi)<|afC
 refine bj aLo (ae h.diag ?_);unfold ei;cases l.any (·==n)<;>exact aD
def atv(ha:a.length<=mx)(hb:b.length<=mx):Ev Nz [aw (ints a),aw (ints b)] (0,[av (Bw a b)]):=by
 have h1:∀x,Ev aa4 [iI x,aa [aw (ints b)]] (0,[av (!ei b x),aa [aw (ints b)]]):=λx=>
  bj aFJ (ae (yP x hb) aD)
 have h:=scan (l:=a) (p:=λx=> !ei b x) (hit:=λi=>(0,[iI (i:Int),aa [aw (ints b)]])) (done:=(1,[aa [aw (ints b)]])) (LF:=λi N m=>RA (FU CX EE N) N m [aw (ints a),iI (ln (ints a)),iI (i:Int),aa [aw (ints b)]])
  (aY ah8 (au dw aD))
  λi hi r h2 h3=>aY ah8<|aV (cZ hi)<|az (cw hi)<|by
   rw [gf hi,ix hi ha];exact ae (h1 _) (ax (λhc=>ab (h2 hc)) h3)
 rcases h with⟨h1,h2⟩|⟨h1,i,hi,h2⟩
 ·exact bj ak1 (ae (bj aia (ae (bj aim (ae h2.diag aD)) aD)) (ab (by rw [Bw,h1];rfl)))
 ·exact bj ak1 (ae (bj aia (ae (bj aim (ae h2.diag aD)) aD)) (ab (by rw [Bw,h1];simp [gI,gB,AV.toI,AV.toB])))
def aQo(ha:a.length<=mx)(hb:b.length<=mx):Ev abY [aw (ints a),aw (ints b)] (0,[av (Bw a b)]):=by
 have h:=CQ (l:=a) (p:=λx=> !ei b x) (hit:=(0,[aT])) (done:=(1,[])) (LF:=λi N m=>SG (FU CX EE N) N m [aw (ints a),aw (ints b),iI (i:Int)])
  (aY aj9 (au dw aD))
  λi hi r h1 h2=>aY aj9<|aV (cZ hi)<|az (cw hi)<|by
   rw [gf hi,ix hi ha];exact ae (AD _ hb) (ax (λhc=>ab (h1 hc)) h2)
 refine bj aH9 (ae h.diag ?_);unfold Bw;cases a.any λx=> !ei b x<;>exact aD
def WZ(lo hi:Int)(hl:l.length<=mx):Ev JO [aw (ints l),iI lo,iI hi] (0,[av (pg l lo hi)]):=by
 have h:=Hl (m:=l.length) (p:=yf l lo hi) (hit:=(0,[aT])) (done:=(1,[])) (LF:=λi N m=>No (FU CX EE N) N m [aw (ints l),iI lo,iI hi,iI (i:Int)])
  (aY akd (au dw aD))
  λi h r h1 h2=>aY akd<|aV (cZ h)<|az (cw h)<|by
   rw [pO h,ix h hl];refine ax (λhc=>ab (h1 (by simp only [yf,hc,bT]))) λhc=>az (cw h)<|ax (λhd=>ab (h1 (ao9))) λhd=>ax (λhe=> ?_) λhe=>h2 (apM);rw [pr h hl he];have DV:i- 1<l.length:=by omega
   rw [pO DV];rw [zi]at he;exact az (cw h)<|az (cw DV)<|ax (λhf=>ab (h1 (VZ))) λhf=>h2 (VZ)
 refine bj aIa (ae h.diag ?_);exact apV
def aQf(lo hi:Int)(hl:l.length<=mx):Ev Te [aw (ints l),iI lo,iI hi] (0,[av (oM l lo hi)]):=by
 have h:=Hl (m:=l.length) (p:=tW l lo hi) (hit:=(0,[aT])) (done:=(1,[])) (LF:=λi N m=>SE (FU CX EE N) N m [aw (ints l),iI lo,iI hi,iI (i:Int)])
  (aY aj8 (au dw aD))
  λi h r h1 h2=>aY aj8<|aV (cZ h)<|az (cw h)<|by
   rw [pO h,ix h hl];refine ax (λhc=>ab (h1 (by simp only [tW,hc,bT]))) λhc=>az (cw h)<|ax (λhd=>ab (h1 (ao4))) λhd=>az (by simp [ln];omega)<|az (cw h) ?_;have e:(ints l).take ((i:Int).toNat)=ints (l.take i):=by rw [ow,<-adf]
   rw [e];refine ae (AD (l.getD i 0) (eE)) (ax (λhf=>ab (h1 ?_)) λhf=>h2 ?_)
   ·have hf:ei (l.take i) (l.getD i 0)=true:=hf;simp only [tW,hc,hd,hf,bM]
   ·have hf:ei (l.take i) (l.getD i 0)=false:=hf;simp only [tW,hc,hd,hf,bM]
 refine bj aH7 (ae h.diag ?_);unfold oM;cases(List.range l.length).any (tW l lo hi)<;>exact aD
end
end Go.Proofs.B
namespace Go.ah
def avt{p:Prop}(h:p:=by
 refine ax (λh1=> ?_) λh1=>ab (by simp only [vZ,h1,bM]);refine ax (λh2=> ?_) λh2=>ab (by rw [c9]at h2;simp only [vZ,h1,h2,bM,bT]);rw [c9]at h2;have hi:=zd h1 h2;have eJ:ib o (cg l).length =true:=by rw [yd];exact hi
 refine az eJ ?_;rw [qX hi];refine ax (c:= !(cW l o).ptr) (λh3=> ?_) λh3=>ab (by simp only [vZ,h1,h2,h3,bM,bT]);refine ax (λh4=> ?_) λh4=>ab (by simp only [vZ,h1,h2,h3,h4,bM,bT]);refine ax (λh5=> ?_) λh5=>ab (by simp only [vZ,h1,h2,h3,h4,h5,bM,bT]);refine az eJ ?_;refine ax (c:=decide (off<=(cW l o).size)) (λh6=> ?_) λh6=>ab (by simp only [vZ,h1,h2,h3,h4,h5,h6,bM,bT]);exact az eJ (ab (by simp only [vZ,h1,h2,h3,h4,h5,h6,bT];rfl))):p:=h
def OU{p:Prop}(h:p:=by rw [yd];exact hi):p:=h
def aqf{p:Prop}(h:p:=by rw [c9]at h2;simp only [lV,h1,h2,bM,bT]):p:=h
def Vh{p:Prop}(h:p:=by cases h;assumption):p:=h
def aey{p:Prop}(h:p:=by rw [hw];simpa using c1):p:=h
def apw{p:Prop}(h:p:=by simp only [lV,h1,h2,h3,bM,bT]):p:=h
end Go.ah
namespace Go.ah
def jE:=@List.drop_length
def Cm:=@Bool.and_false
def TT:=@Bool.eq_iff_iff
end Go.ah
namespace Go.Proofs.B.C
open Go Go.ah
section
variable{e:CE}{en i n o off:Int}{l:List OB}
abbrev cg(l:List OB):aE:=l.map iX
def ob0:OB:=⟨0,0,0,false,[]⟩
def cW(l:List OB)(i:Int):OB:=l.getD i.toNat ob0
def qX(h:ib i l.length=true):gA (cg l) i.toNat=iX (cW l i):=by
 simp only [ib,bA,iT]at h;have:i.toNat<l.length:=by omega
 rw [wR this];simp [cW,this]
def yd:ib i (cg l).length =ib i l.length:=by simp
def zd{n:Nat}(h0:decide (0<=i)=true)(h1:decide (i<(n:Int))=true):ib i n=true:=by
 unfold ib;rw [h0,h1];rfl
def c9{α:Type}(f:α->Row)(l:List α):ln (l.map f)=(l.length:Int):=by simp [ln]
def lV(l:List OB)(o off:Int):Bool:=bif decide (0<=o)then bif decide (o<(l.length:Int))then bif decide (0<=off)then decide (off<(cW l o).size)else false else false else false
def VD:Ev Gk [aa [dg (cg l),iI en],iI o,iI off] (0,[av (lV l o off)]):=by
 refine bj aCz ?_;refine ax (λh1=> ?_) λh1=>ab (by simp only [lV,h1,bM]);refine ax (c:=decide (o<ln (cg l))) (λh2=> ?_) λh2=>ab (aqf);rw [c9]at h2;refine ax (λh3=> ?_) λh3=>ab (apw);have hi:=zd h1 h2;refine az (by rw [show gR [dg (cg l),iI en] 0=cg l from rfl,yd];exact hi) (ab ?_);rw [show gR [dg (cg l),iI en] 0=cg l from rfl,qX hi];simp only [lV,h1,h2,h3,bT];rfl
def arP:Ev TE [dg (cg l),iI o,iI off] (0,[av (lV l o off)]):=by
 refine bj aJu ?_;refine ax (λh1=> ?_) λh1=>ab (by simp only [lV,h1,bM]);refine ax (c:=decide (o<ln (cg l))) (λh2=> ?_) λh2=>ab (aqf);rw [c9]at h2;refine ax (λh3=> ?_) λh3=>ab (apw);have hi:=zd h1 h2;refine az (OU) (ab ?_);rw [qX hi];simp only [lV,h1,h2,h3,bT];rfl
def vZ(l:List OB)(o off n:Int):Bool:=bif decide (0<=o)then bif decide (o<(l.length:Int))then bif !(cW l o).ptr then bif decide (0<=off)then bif decide (1<=n)then bif decide (off<=(cW l o).size)then decide (n<=aU ((cW l o).size - off))else false else false else false else false else false else false
def au7:Ev Su [aa [dg (cg l),iI en],iI o,iI off,iI n] (0,[av (vZ l o off n)]):=by
 refine bj aEx ?_;rw [show gR [dg (cg l),iI en] 0=cg l from rfl];exact avt
def asV:Ev TG [dg (cg l),iI o,iI off,iI n] (0,[av (vZ l o off n)]):=by
 refine bj aJy ?_;exact avt
mutual
def p9:CE->Nat
 | .mk _ _ _ _ _ _ _ _ l=>sZ l+1
def sZ:List CE->Nat
 | []=>0
 |e::es=>p9 e+sZ es
end
mutual
def wG:CE->Nat
 | .mk _ _ _ _ _ _ _ _ l=>wj l+1
def wj:List CE->Nat
 | []=>0
 |e::es=>max (wG e) (wj es)
end
def UU(e:CE):p9 e=sZ e.L+1:=by cases e;rfl
def O4(e:CE):wG e=wj e.L+1:=by cases e;rfl
def Uy(e:CE):1<=p9 e:=by rw [UU];omega
def _root_.Go.Proofs.B.CE.Ok.len(h:e.Ok):e.L.length<=mx:=Vh
def _root_.Go.Proofs.B.CE.Ok.jt{y:CE}(h:e.Ok)(hy:y∈e.L):y.Ok:=by cases h with|mk _ _ h=>exact h y hy
def vW{l:List CE}{i:Nat}(h:i<l.length):aF qP 0 (gA (l.map aH) ((i:Int).toNat))=aH l[i]:=by rw [gf h,e7]
def aM0:∀(e:CE),e.Ok->∀(d n:Int),0<=d->d<=64->0<=n->n<=1000->
 ∃n',Ev NM [aa (aH e),iI d,aa [iI n]] (0,[av (decide ((p9 e:Int)<=n)&&decide (d+wG e<=64)),aa [iI n']])/\((decide ((p9 e:Int)<=n)&&decide (d+wG e<=64))=true->n'=n- p9 e):=by
 refine CE.ind λe ih aX d n hd du hn hn'=> ?_;have hw:aU (n- 1)=n- 1:=mi (by omega) (by omega)
 by_cases c1:n- 1<0
 ·refine⟨aU (n- 1),bj abI (aV (c:=decide (aU (n- 1)<0)) (aey) (ab (o:=(0,[aT,aa [iI (aU (n- 1))]])) ?_)),λh=> ?_⟩
  ·have:decide ((p9 e:Int)<=n)=false:=by have:=Uy e;simp;omega
   exact iV
  ·have:=Uy e;simp at h;omega
 by_cases c2:64<=d
 ·refine⟨aU (n- 1),bj abI (au (c:=decide (aU (n- 1)<0)) (aey) (aV (by simpa using c2) (ab (o:=(0,[aT,aa [iI (aU (n- 1))]])) ?_))),λh=> ?_⟩
  ·have:decide (d+(wG e:Int)<=64)=false:=by rw [O4];simp;omega
   rw [this,Cm]
  ·rw [O4]at h;simp at h;omega
 have AP:aU (d+1)=d+1:=mi (by omega) (by omega);have h:=fP (m:=e.L.length) (P:=λi=>∀n:Int,0<=n->n<=1000->∃n',
  bS Nf [iI d,bR (e.L.map aH),iI (ln (e.L.map aH)),iI (i:Int),aa [iI n]]
   (bif decide ((sZ (e.L.drop i):Int)<=n)&&decide (d+1+wj (e.L.drop i)<=64)then(1,[aa [iI (n- sZ (e.L.drop i))]])else(0,[aT,aa [iI n']])))
  (λn h0 h1=>⟨0,aY aaw (au dw (ab (by
    rw [jE];have:(decide (((sZ []:Nat):Int)<=n)&&decide (d+1+((wj []:Nat):Int)<=64))=true:=by rw [bA,iT,iT];simp only [sZ,wj];omega
    rw [this];simp [sZ];rfl)))⟩)
  λi hi gN n h0 h1=>by
   obtain⟨n',hk,k7⟩:=ih e.L[i] (cY hi) (aX.jt (cY hi)) (d+1) n (by omega) (by omega) h0 h1;rw [jj hi];generalize hA:sZ (e.L[i]::e.L.drop (i+1))=A;generalize hB:wj (e.L[i]::e.L.drop (i+1))=B;have hA:A=p9 e.L[i]+sZ (e.L.drop (i+1)):=hA.symm;have hB:B=max (wG e.L[i]) (wj (e.L.drop (i+1))):=hB.symm;cases hb:(decide ((p9 e.L[i]:Int)<=n)&&decide (d+1+wG e.L[i]<=64))with
   |false=>
    rw [hb]at hk;refine⟨n',aY aaw<|aV (cZ hi)<|az (cw hi) ?_⟩;rw [vW hi,AP];refine ae hk (bh (ab ?_));have:(decide ((A:Int)<=n)&&decide (d+1+(B:Int)<=64))=false:=by
     rw [Bool.eq_false_iff]at hb⊢;intro h;apply hb;simp at h⊢;omega
    exact iV
   |true=>
    rw [hb]at hk;have:=k7 hb;subst this;simp only [bA,iT]at hb;obtain⟨n2,h2⟩:=gN (n- p9 e.L[i]) (by omega) (by have:=Uy e.L[i];omega);refine⟨n2,aY aaw<|aV (cZ hi)<|az (cw hi) ?_⟩;rw [vW hi,AP,ix hi aX.len];refine ae hk (bm (E.to h2 ?_));have:(decide ((sZ (List.drop (i+1) e.L):Int)<=n- p9 e.L[i])&&decide (d+1+(wj (List.drop (i+1) e.L):Int)<=64))=(decide ((A:Int)<=n)&&decide (d+1+(B:Int)<=64)):=by
     rw [TT];simp;omega
    rw [this,show n-(p9 e.L[i]:Int)-(sZ (List.drop (i+1) e.L):Int)=n-(A:Int)by omega]
 obtain⟨n',h⟩:=h (n- 1) (by omega) (by omega);rw [nU]at h;have hq:(decide ((p9 e:Int)<=n)&&decide (d+wG e<=64))=(decide ((sZ e.L:Int)<=n- 1)&&decide (d+1+wj e.L<=64)):=by
  rw [UU,O4,TT];simp;omega
 rw [hq];have go:∀o,bS Nf [iI d,bR (e.L.map aH),iI (ln (e.L.map aH)),iI ((0:Nat):Int),aa [iI (n- 1)]] o->∀r,E (λN m=>bif Nat.beq o.1 0 then some (0,[av (gB o.2 0),aa [iI (gI (gC o.2 1) 0)]])else some (0,[c5,aa [iI (gI (gC o.2 0) 0)]])) r->Ev NM [aa (aH e),iI d,aa [iI n]] r:=λo ho r hr=>by
  refine bj abI (au (c:=decide (aU (n- 1)<0)) (aey) (au (by simpa using c2) ?_));rw [uD];rw [<-hw]at ho;exact ae ho.diag hr
 cases hb:(decide ((sZ e.L:Int)<=n- 1)&&decide (d+1+wj e.L<=64))with
 |true=>
  rw [hb]at h;exact⟨_,go _ h _ aD,λ_=>by rw [UU];show(n- 1- _:Int)=_;omega⟩
 |false=>
  rw [hb]at h;exact⟨_,go _ h _ aD,λh=>aM⟩
end
end Go.Proofs.B.C
namespace Go.ah
def asr{p:Prop}(h:p:=by exact ax (c:= !s.ptr) (λh2=>ax (c:=decide (o.lo<=s.lo)) (λh3=>ab (by simp only [re,h1,h2,h3,bT,bM];rfl)) λh3=>ab (by simp only [re,h1,h2,h3,bT,bM])) λh2=>ab (by simp only [re,h1,h2,bM])):p:=h
def asn{p:Prop}(h:p:=by refine ax (c:= !s.ptr) (λh1=>ax (c:=decide (0<=s.lo)) (λh2=>ab ?_) λh2=>ab ?_) λh1=>ab ?_<;>simp only [om,h1,bT,bM]<;>(try simp only [h2,bT,bM])<;>rfl):p:=h
def apL{p:Prop}(h:p:=by simp only [re,h1,h2,h3,bT,bM];rfl):p:=h
def apr{p:Prop}(h:p:=by simp only [re,h1,h2,h3,bT,bM]):p:=h
def apa{p:Prop}(h:p:=by simp only [zm,h1,h2,bT,bM]):p:=h
end Go.ah
namespace Go.Proofs.B.C
open Go Go.ah
section
variable{o:OB}{s:SO}
def aOk:∀(e:CE),e.Ok->∀(room deep:Int),deep<=64->room<=1000->(p9 e:Int)<=room->(wG e:Int)<=deep->Ev TF [aa (aH e),iI room,iI deep] (0,[iI (p9 e:Int)]):=by
 refine CE.ind λe ih aX room deep du hn' g1 g2=> ?_;have ps:=Uy e;have e1:=UU e;have e2:=O4 e;have h:=fP (m:=e.L.length) (P:=λi=>∀n:Int,1<=n->n+sZ (e.L.drop i)<=room->(wj (e.L.drop i):Int)<=deep- 1->
  bS SV [iI room,iI deep,iI n,iI (i:Int),aa (aH e)] (1,[iI (n+sZ (e.L.drop i)),aa (aH e)]))
  (λn _ _ _=>aY akx (by
    rw [uD];refine au dw (ab ?_);rw [jE,e7];simp [sZ]))
  λi hi gN n h0 h1 h2=>by
   rw [jj hi]at h1 h2⊢;simp only [sZ,wj]at h1 h2⊢;have hk:=ih e.L[i] (cY hi) (aX.jt (cY hi)) (room- n) (deep- 1) (by omega) (by omega) (by omega) (by omega);have h3:=gN (n+p9 e.L[i]) (by omega) (by omega) (by omega);refine aY akx ?_;rw [uD,e7];refine aV (cZ hi)<|az (cw hi) ?_;rw [vW hi,mi (n:=deep- 1) (by omega) (by omega),mi (n:=room- n) (by omega) (by omega),ix hi aX.len];refine ae hk (au (c:=decide ((p9 e.L[i]:Int)<0)) (by simp) ?_);rw [show aU (n+gI (0,[iI (p9 e.L[i]:Int)]).2 0)=n+(p9 e.L[i]:Int)from mi (by show-9223372036854775808<=n+(p9 e.L[i]:Int);omega) (by show n+(p9 e.L[i]:Int)<=9223372036854775807;omega)];refine E.to h3 ?_;rw [Int.add_assoc];simp
 have h:=h 1 (by omega) (by rw [nU];omega) (by rw [nU];omega);rw [nU]at h;refine bj aJv (E2 aH3 (VM (c:=decide (room<1)) (eE) (VM (c:=decide (deep<1)) (eE) (rH (bh ?_)))));rw [e7];refine ae h.diag (bm (ab ?_));show(0,[iI (1+(sZ e.L:Int))])=_;rw [e1];congr 3;omega
def LA(e:CE):Bool:=decide ((p9 e:Int)<=256)&&decide ((wG e:Int)<=64)
def Wx(s:OB):aF NR 0 (iX s)=iX s:=rfl
def om(s:SO):Bool:=bif !s.ptr then bif decide (0<=s.lo)then decide (s.hi<=1)else false else false
def E8(s:SO):Ev wJ [aa (bJ s)] (0,[av (om s)]):=by
 refine bj aDs ?_;exact asn
def E7(s:SO):Ev A1 [aa (bJ s)] (0,[av (om s)]):=by
 refine bj aIP ?_;exact asn
def re(s:SO)(o:OB):Bool:=bif o.ptr then bif s.null then true else bif s.ptr then Bw s.set o.set else false else bif !s.ptr then bif decide (o.lo<=s.lo)then decide (s.hi<=o.hi)else false else false
def aZJ(hs:s.set.length<=mx)(ho:o.Ok):Ev aaK [aa (bJ s),aa (iX o)] (0,[av (re s o)]):=by
 refine bj aEw ?_;refine ax (c:=o.ptr) (λh1=>ax (c:=s.null) (λh2=>ab (by simp only [re,h1,h2,bT])) λh2=>ax (c:=s.ptr) (λh3=>ae (atv hs ho) (ab (apL))) λh3=>ab (apr)) λh1=> ?_;exact asr
def aZI(hs:s.set.length<=mx)(ho:o.Ok):Ev acz [aa (iX o),aa (bJ s)] (0,[av (re s o)]):=by
 refine bj aJx ?_;refine ax (c:=o.ptr) (λh1=>ax (c:=s.null) (λh2=>ab (by simp only [re,h1,h2,bT])) λh2=>ax (c:=s.ptr) (λh3=>ae (aQo hs ho) (ab (apL))) λh3=>ab (apr)) λh1=> ?_;exact asr
def zm(a b:OB):Bool:=bif a.ptr then bif b.ptr then Bw a.set b.set else false else bif b.ptr then false else bif decide (b.lo<=a.lo)then decide (a.hi<=b.hi)else false
def ag3{a b:OB}(ha:a.Ok)(hb:b.Ok):Ev NX [aa (iX a),aa (iX b)] (0,[av (zm a b)]):=by
 refine bj aI1 ?_;refine ax (c:=a.ptr) (λh1=>aV (c:=a.ptr) h1 (ax (c:=b.ptr) (λh2=>ae (atv ha hb) (ab (by simp only [zm,h1,h2,bT];rfl))) λh2=>ab (apa))) λh1=> ?_;refine ax (c:=b.ptr) (λh2=>au (c:=a.ptr) h1 (ab (apa))) λh2=> ?_;exact ax (c:=decide (b.lo<=a.lo)) (λh3=>ab (by simp only [zm,h1,h2,h3,bT,bM];rfl)) λh3=>ab (by simp only [zm,h1,h2,h3,bM])
end
end Go.Proofs.B.C
namespace Go.ah
def ae0{p:Prop}(h:p:=by rw [Kk];exact⟨rfl,rfl,rfl,rfl,rfl,rfl,rfl⟩):p:=h
def aqy{p:Prop}(h:p:=by simp only [gg,h1,h2,h3,h4,h5,h6,h7,h8,h9,mK,bT,bM];rfl):p:=h
def aqs{p:Prop}(h:p:=by simp only [gg,h1,h2,h3,h4,h5,h6,h7,h8,h9,bT,bM];rfl):p:=h
def aqn{p:Prop}(h:p:=by simp only [gg,h1,h2,h3,h4,h5,h6,h7,h8,bT,bM];rfl):p:=h
def aqi{p:Prop}(h:p:=by simp only [gg,h1,h2,h3,h4,h5,h6,h7,h8,h9,mK,bM];rfl):p:=h
def aqe{p:Prop}(h:p:=by simp only [gg,h1,h2,h3,h4,h5,h6,h7,bT,bM];rfl):p:=h
def ap6{p:Prop}(h:p:=by simp only [gg,h1,h2,h3,h4,h5,h6,bT,bM];rfl):p:=h
def apW{p:Prop}(h:p:=by simp only [gg,h1,h2,h3,h4,h5,bT,bM];rfl):p:=h
def apR{p:Prop}(h:p:=by simp only [gg,h1,h2,h3,h4,bT,bM];rfl):p:=h
def apF{p:Prop}(h:p:=by simp only [gg,h1,h2,h3,bT,bM];rfl):p:=h
def aps{p:Prop}(h:p:=by simp only [gg,h1,h2,bT,bM];rfl):p:=h
def ao2{p:Prop}(h:p:=by simp only [kN,h1,h2,bT,bM]):p:=h
def ao1{p:Prop}(h:p:=by simp only [kT,h1,h2,bT,bM]):p:=h
end Go.ah
namespace Go.ah
def Uv:=@Bool.and_true
def wM:=@Bool.true_and
end Go.ah
namespace Go.Proofs.B.C
open Go Go.ah
section
variable{a b:Int}
def kN(k:Int):Bool:=bif k==1 then true else bif k==11 then true else k==14
def kT(k:Int):Bool:=bif k==6 then true else bif k==7 then true else k==10
def gg(e:CE):CE×Int:=
 bif kN e.kind then(.mk e.kind 0 e.N 0 0 0 0 0 [],0)
 else bif e.kind==2 then(.mk e.kind 0 0 e.O e.off 0 0 0 [],0)
 else bif e.kind==3 then(.mk e.kind 0 0 e.O e.off e.len 0 0 [],1)
 else bif e.kind==4 then(.mk e.kind e.op 0 0 0 0 0 0 [],1)
 else bif e.kind==5 then(.mk e.kind e.op 0 0 0 0 0 0 [],2)
 else bif kT e.kind then(.mk e.kind 0 0 0 0 0 0 0 [],2)
 else bif e.kind==8 then(.mk e.kind 0 0 0 0 0 0 0 [],3)
 else bif e.kind==9 then(.mk e.kind 0 0 0 0 0 e.lo e.hi [],1)
 else bif e.kind==12 then(.mk e.kind 0 0 e.O 0 0 0 0 [],0)
 else bif e.kind==13 then(.mk e.kind 0 0 0 0 0 0 0 [],1)
 else(.mk e.kind 0 0 0 0 0 0 0 [],-1)
def kNC(k:Int):bY aaD [cu k] (0,[av (kN k)]):=
 bX aDi (ax (λh1=>ab (by simp only [kN,h1,bT])) λh1=>ax (λh2=>ab (ao2)) λh2=>ab (by simp only [kN,h1,h2,bM]))
def kNR(k:Int):bY aaS [cu k] (0,[av (kN k)]):=
 bX aEd (ax (λh1=>ab (by simp only [kN,h1,bT])) λh1=>ax (λh2=>ab (ao2)) λh2=>ab (by simp only [kN,h1,h2,bM]))
def kTC(k:Int):bY Z4 [cu k] (0,[av (kT k)]):=
 bX aA4 (ax (λh1=>ab (by simp only [kT,h1,bT])) λh1=>ax (λh2=>ab (ao1)) λh2=>ab (by simp only [kT,h1,h2,bM]))
def kTR(k:Int):bY aab [cu k] (0,[av (kT k)]):=
 bX aBF (ax (λh1=>ab (by simp only [kT,h1,bT])) λh1=>ax (λh2=>ab (ao1)) λh2=>ab (by simp only [kT,h1,h2,bM]))
def exC(e:CE):Ev ab2 [aa (aH e)] (0,[aa (aH (gg e).1),iI (gg e).2]):=by
 rw [Kk e];refine bj aIj (ae (kNC e.kind) (ax (c:=kN e.kind) (λh1=> ?_) λh1=>ax (c:=e.kind==2) (λh2=> ?_) λh2=>ax (c:=e.kind==3) (λh3=> ?_) λh3=>ax (c:=e.kind==4) (λh4=> ?_) λh4=>ax (c:=e.kind==5) (λh5=> ?_) λh5=>
  ae (kTC e.kind) (ax (c:=kT e.kind) (λh6=> ?_) λh6=>ax (c:=e.kind==8) (λh7=> ?_) λh7=>ax (c:=e.kind==9) (λh8=> ?_) λh8=>ax (c:=e.kind==12) (λh9=> ?_) λh9=>ax (c:=e.kind==13) (λmK=> ?_) λmK=> ?_)))
 ·exact ae (bj aGK aD) (ab (by simp only [gg,h1,bT];rfl))
 ·exact ae (bj aa7 aD) (ae (bj akJ aD) (ab (aps)))
 ·exact ae (bj aa7 aD) (ae (bj akJ aD) (ae (bj aGJ aD) (ab (apF))))
 ·exact ae (bj akI aD) (ab (apR))
 ·exact ae (bj akI aD) (ab (apW))
 ·exact ab (ap6)
 ·exact ab (aqe)
 ·exact ae (bj aGI aD) (ab (aqn))
 ·exact ae (bj aa7 aD) (ab (aqs))
 ·exact ab (aqy)
 ·exact ab (aqi)
def oL(e:CE):Bool:=
 ((gg e).2 ==(e.L.length:Int))&&((gg e).1.N ==e.N)&&((gg e).1.op ==e.op)&&((gg e).1.O ==e.O)&&((gg e).1.off ==e.off)&&((gg e).1.len ==e.len)&&((gg e).1.lo ==e.lo)&&((gg e).1.hi ==e.hi)
def pY(h:(a != b)=true):(a==b)=false:=mU
def fb(h:(a != b)=false):(a==b)=true:=mU
def awg(e:CE)(x:aq):bY Z2 [iI (gg e).2,aa (aH e),aa x,aa (aH (gg e).1),aw []]
 (bif oL e then(0,[aa (aH e),aa (sT (aF xF 0 x) Px),aa (aH (gg e).1),aw []])else(1,[aT,aa (aH e),aa [aT,aT,.ak 3,iI 0,iI 0],aa (aH (gg e).1),aw []])):=by
 refine bX aA2 ?_;rw [e7,e7,uD,c9];have g:∀y:CE,gI (aH y) 1=y.op/\gI (aH y) 2=y.N/\gI (aH y) 3=y.O/\gI (aH y) 4=y.off/\gI (aH y) 5=y.len/\gI (aH y) 6=y.lo/\gI (aH y) 7=y.hi:=λy=>ae0;obtain⟨a1,a2,a3,a4,a5,a6,a7⟩:=g e;obtain⟨b1,b2,b3,b4,b5,b6,b7⟩:=g (gg e).1;rw [a1,a2,a3,a4,a5,a6,a7,b1,b2,b3,b4,b5,b6,b7];refine ax (λh1=>ab ?_) λh1=>ax (λh2=>ab ?_) λh2=>ax (λh3=>ab ?_) λh3=>ax (λh4=>ab ?_) λh4=>ax (λh5=>ab ?_) λh5=>ax (λh6=>ab ?_) λh6=>ax (λh7=>ab ?_) λh7=>ax (λh8=>ab ?_) λh8=>ab ?_
 ·simp only [oL,pY h1,tC,bM]
 ·simp only [oL,fb h1,pY h2,tC,Cm,bM]
 ·simp only [oL,fb h1,fb h2,pY h3,tC,Cm,bM]
 ·simp only [oL,fb h1,fb h2,fb h3,pY h4,tC,Cm,bM]
 ·simp only [oL,fb h1,fb h2,fb h3,fb h4,pY h5,tC,Cm,bM]
 ·simp only [oL,fb h1,fb h2,fb h3,fb h4,fb h5,pY h6,tC,Cm,bM]
 ·simp only [oL,fb h1,fb h2,fb h3,fb h4,fb h5,fb h6,pY h7,tC,Cm,bM]
 ·simp only [oL,fb h1,fb h2,fb h3,fb h4,fb h5,fb h6,fb h7,pY h8,Cm,bM]
 ·simp only [oL,fb h1,fb h2,fb h3,fb h4,fb h5,fb h6,fb h7,fb h8,Uv,bT]
def aPz(e:CE):bY abh [iI 0,aa (aH e),aa [cu e.kind,cu 0,iI 0,iI 0,iI 0,iI 0,iI 0,iI 0,.ak 2],bR []]
 (bif (gg e).2 == -1 then(1,[aT,aa (aH e),aa (sT (aH (gg e).1) zf),bR []])else(0,[iI (gg e).2,aa (aH e),aa (sT (aH (gg e).1) zf),bR []])):=by
 refine bX aFv ?_;rw [e7];have g:gI (aH e) 0=e.kind/\gI (aH e) 1=e.op/\gI (aH e) 2=e.N/\gI (aH e) 3=e.O/\gI (aH e) 4=e.off/\gI (aH e) 5=e.len/\gI (aH e) 6=e.lo/\gI (aH e) 7=e.hi:=by
  rw [Kk];exact⟨rfl,rfl,rfl,rfl,rfl,rfl,rfl,rfl⟩
 obtain⟨a0,a1,a2,a3,a4,a5,a6,a7⟩:=g;rw [a0,a1,a2,a3,a4,a5,a6,a7];refine ae (kNR e.kind) (ax (c:=kN e.kind) (λh1=> ?_) λh1=>ax (c:=e.kind==2) (λh2=> ?_) λh2=>ax (c:=e.kind==3) (λh3=> ?_) λh3=>ax (c:=e.kind==4) (λh4=> ?_) λh4=>ax (c:=e.kind==5) (λh5=> ?_) λh5=>
  ae (kTR e.kind) (ax (c:=kT e.kind) (λh6=> ?_) λh6=>ax (c:=e.kind==8) (λh7=> ?_) λh7=>ax (c:=e.kind==9) (λh8=> ?_) λh8=>ax (c:=e.kind==12) (λh9=> ?_) λh9=>ax (c:=e.kind==13) (λmK=> ?_) λmK=> ?_))
 ·exact ab (by simp only [gg,h1,bT];rfl)
 ·exact ab (aps)
 ·exact ab (apF)
 ·exact ab (apR)
 ·exact ab (apW)
 ·exact ab (ap6)
 ·exact ab (aqe)
 ·exact ab (aqn)
 ·exact ab (aqs)
 ·exact ab (aqy)
 ·exact ab (aqi)
def aZH(e:CE):Ev ab0 [aa (aH e)] (0,[av (oL e)]):=by
 refine bj aIc ?_;rw [e7,show gI (aH e) 0=e.kind by rw [Kk];rfl];refine ae (aPz e) ?_;cases hk:(gg e).2 == -1 with
 |true=>
  refine bm (ab ?_);have:((gg e).2 ==(e.L.length:Int))=false:=by rw [eq_of_beq hk];simp
  simp only [oL,this,tC];rfl
 |false=>
  refine bh ?_;simp only [bM];rw [show gC (0,[iI (gg e).2,aa (aH e),aa (sT (aH (gg e).1) zf),bR []]).2 1=aH e from rfl,show gC (0,[iI (gg e).2,aa (aH e),aa (sT (aH (gg e).1) zf),bR []]).2 2=sT (aH (gg e).1) zf from rfl,uD,c9];have g:gI (aH e) 1=e.op/\gI (aH e) 2=e.N/\gI (aH e) 3=e.O/\gI (aH e) 4=e.off/\gI (aH e) 5=e.len/\gI (aH e) 6=e.lo/\gI (aH e) 7=e.hi:=ae0;have g':∀y:CE,gI (sT (aH y) zf) 1=y.op/\gI (sT (aH y) zf) 2=y.N/\gI (sT (aH y) zf) 3=y.O/\gI (sT (aH y) zf) 4=y.off/\gI (sT (aH y) zf) 5=y.len/\gI (sT (aH y) zf) 6=y.lo/\gI (sT (aH y) zf) 7=y.hi:=λy=>ae0;obtain⟨a1,a2,a3,a4,a5,a6,a7⟩:=g;obtain⟨b1,b2,b3,b4,b5,b6,b7⟩:=g' (gg e).1;rw [a1,a2,a3,a4,a5,a6,a7,b1,b2,b3,b4,b5,b6,b7];have cm:∀{a b:Int} {c:Bool},(a==b)=c->(b==a)=c:=λh=>by rw [BEq.comm];exact h
  refine ax (c:=(e.L.length:Int)==(gg e).2) (λh1=> ?_) λh1=>ab ?_
  ·refine ax (λh2=>ax (λh3=>ax (λh4=>ax (λh5=>ax (λh6=>ax (λh7=>ab ?_) λh7=>ab ?_) λh6=>ab ?_) λh5=>ab ?_) λh4=>ab ?_) λh3=>ab ?_) λh2=>ab ?_
   ·simp only [oL,cm h1,cm h2,cm h3,cm h4,cm h5,cm h6,cm h7,wM,BEq.comm (a:=(gg e).1.hi)]
   ·simp only [oL,cm h1,cm h2,cm h3,cm h4,cm h5,cm h6,cm h7,wM,tC]
   ·simp only [oL,cm h1,cm h2,cm h3,cm h4,cm h5,cm h6,wM,tC]
   ·simp only [oL,cm h1,cm h2,cm h3,cm h4,cm h5,wM,tC]
   ·simp only [oL,cm h1,cm h2,cm h3,cm h4,wM,tC]
   ·simp only [oL,cm h1,cm h2,cm h3,wM,tC]
   ·simp only [oL,cm h1,cm h2,wM,tC,Cm]
  ·simp only [oL,cm h1,tC]
end
end Go.Proofs.B.C
namespace Go.ah
def KT{p:Prop}(h:p:=by simp only [pn,PQ,h1,h2,h3,h4,h5,bT,bM];rfl):p:=h
def asj{p:Prop}(h:p:=by
 refine az (by rw [yd];exact hx) ?_;rw [zi0,jj h];have e1:(i+1==0)=false:=rfl;rw [e1]at ih;cases hz:i==0 with
 |true=>exact bh (ih _ _)
 |false=>exact bm (ih _ _)):p:=h
def V2{p:Prop}(h:p:=by simp only [pn,PQ,h1,h2,h3,h4,h5,h6,bT,bM];rfl):p:=h
def Vp{p:Prop}(h:p:=by simp only [uA,this,bT];exact fin):p:=h
def apX{p:Prop}(h:p:=by simp only [pn,PQ,h1,h2,h3,bT,bM];rfl):p:=h
def apb{p:Prop}(h:p:=by simp only [pn,h1,h2,h3,h4,C9,h5,bT,bM];rfl):p:=h
end Go.ah
namespace Go.Proofs.B.C
open Go Go.ah
section
variable{l:List OB}{s:SO}
def uI:SO:=⟨false,false,[],0,0⟩
def Bf:SO:=⟨false,false,[],0,1⟩
def Ez:SO:=⟨false,false,[],-2147483648,2147483647⟩
def Qf:Ev Cj [] (0,[aa (bJ Bf)]):=bj aJz aD
def Ws:Ev Tt [] (0,[aa (bJ Ez)]):=bj aI2 aD
def zC(p:Int):Bool:=bif decide (1<=p)then decide (p<=6)else false
def BT(p:Int):Bool:=bif p==7 then true else p==8
def yv(p:Int):Bool:=bif decide (9<=p)then decide (p<=12)else false
def zA(p:Int):Bool:=bif decide (13<=p)then decide (p<=15)else false
def w8(a b:SO):Bool:=bif !a.ptr then !b.ptr else false
def PQ(a b:SO):Bool:=bif w8 a b then true else bif (bif a.ptr then true else a.null)then(bif b.ptr then true else b.null)else false
def C9(a b:SO):Bool:=bif om a then om b else false
def pn(p:Int)(a b:SO):SO×Bool:=
 bif zC p then(Ez,w8 a b)else bif BT p then(Bf,PQ a b)else bif yv p then(Bf,w8 a b)else bif zA p then(Bf,C9 a b)else(uI,false)
def aON(a b:SO):bY abn [aa (bJ a),aa (bJ b)] (0,[av (w8 a b),aa (bJ a),aa (bJ b)]):=
 bX aFD (ax (c:= !a.ptr) (λh=>ab (by simp only [w8,h,bT];rfl)) λh=>ab (by simp only [w8,h,bM];rfl))
def aOM(a b:SO):bY aby [aa (bJ a),aa (bJ b)] (0,[av (w8 a b),aa (bJ a),aa (bJ b)]):=
 bX aGB (ax (c:= !a.ptr) (λh=>ab (by simp only [w8,h,bT];rfl)) λh=>ab (by simp only [w8,h,bM];rfl))
def aYo(p:Int):bY aa1 [cu p] (0,[av (zC p)]):=
 bX aEn (ax (λh=>ab (by simp only [zC,h,bT])) λh=>ab (by simp only [zC,h,bM]))
def aYm(p:Int):bY aaE [cu p] (0,[av (BT p)]):=
 bX aDj (ax (λh=>ab (by simp only [BT,h,bT])) λh=>ab (by simp only [BT,h,bM]))
def aYl(p:Int):bY aaT [cu p] (0,[av (BT p)]):=
 bX aEe (ax (λh=>ab (by simp only [BT,h,bT])) λh=>ab (by simp only [BT,h,bM]))
def bt{c:Bool}(h:c=true):(0,[c5])=(0,[av c]):=by rw [h]
def aYn(p:Int):bY aaU [cu p] (0,[av (zC p)]):=by
 refine bX aEf ?_;have q:∀n:Int,1<=n->n<=6->(p==n)=true->zC p=true:=λn h1 h2 h=>by
  rw [eq_of_beq h];simp [zC,h1,h2]
 refine ax (λh=>ab (bt (q 1 (by omega) (by omega) h))) λh1=>ax (λh=>ab (bt (q 2 (by omega) (by omega) h))) λh2=>ax (λh=>ab (bt (q 3 (by omega) (by omega) h))) λh3=>ax (λh=>ab (bt (q 4 (by omega) (by omega) h))) λh4=>ax (λh=>ab (bt (q 5 (by omega) (by omega) h))) λh5=>ab ?_;have:(p==6)=zC p:=by
  simp at h1 h2 h3 h4 h5
  by_cases h:p=6
  ·subst h;rfl
  ·rw [show(p==6)=false by simpa using h];symm;unfold zC;cases ha:decide (1<=p)<;>simp at ha⊢<;>omega
 rw [this]
def aYk(p:Int):bY aaC [cu p] (0,[av (yv p)]):=by
 refine bX aDh ?_;have q:∀n:Int,9<=n->n<=12->(p==n)=true->yv p=true:=λn h1 h2 h=>by
  rw [eq_of_beq h];simp [yv,h1,h2]
 refine ax (λh=>ab (bt (q 9 (by omega) (by omega) h))) λh1=>ax (λh=>ab (bt (q 10 (by omega) (by omega) h))) λh2=>ax (λh=>ab (bt (q 11 (by omega) (by omega) h))) λh3=>ab ?_;have:(p==12)=yv p:=by
  simp at h1 h2 h3
  by_cases h:p=12
  ·subst h;rfl
  ·rw [show(p==12)=false by simpa using h];symm;unfold yv;cases ha:decide (9<=p)<;>simp at ha⊢<;>omega
 rw [this]
def aYj(p:Int):bY aaB [cu p] (0,[av (zA p)]):=by
 refine bX aDg ?_;have q:∀n:Int,13<=n->n<=15->(p==n)=true->zA p=true:=λn h1 h2 h=>by
  rw [eq_of_beq h];simp [zA,h1,h2]
 refine ax (λh=>ab (bt (q 13 (by omega) (by omega) h))) λh1=>ax (λh=>ab (bt (q 14 (by omega) (by omega) h))) λh2=>ab ?_;have:(p==15)=zA p:=by
  simp at h1 h2
  by_cases h:p=15
  ·subst h;rfl
  ·rw [show(p==15)=false by simpa using h];symm;unfold zA;cases ha:decide (13<=p)<;>simp at ha⊢<;>omega
 rw [this]
def aZY(p:Int)(a b:SO):Ev abH [cu p,aa (bJ a),aa (bJ b)] (0,[aa (bJ (pn p a b).1),av (pn p a b).2]):=by
 have two:∀r,(bif om a then(0,[aa (bJ Bf),av (om b)])else(0,[aa (bJ Bf),aT]))=r->E (λN n=>bO (FU CX EE N Cj []) λ_ o7=>bO (FU CX EE N wJ [aa (bJ a)]) λ_ o8=>bif gB o8 0 then bO (FU CX EE N wJ [aa (bJ b)]) λ_ o9=>some (0,[aa (aF nc 0 (gC o7 0)),av (gB o9 0)])else some (0,[aa (aF nc 0 (gC o7 0)),aT])) r:=λr hr=>
  ae Qf (ae (E8 a) (ax (c:=om a) (λh=>ae (E8 b) (ab (by rw [<-hr,h];rfl))) λh=>ab (by rw [<-hr,h];rfl)))
 refine bj aHC (ae (aON a b) (ae (aYo p) (ax (c:=zC p) (λh1=> ?_) λh1=>ae (aYm p) (ax (c:=BT p) (λh2=> ?_) λh2=>ax (λh3=>ax (λh4=> ?_) λh4=> ?_) λh3=> ?_))))
 ·exact ae Ws (ab (by simp only [pn,h1,bT];rfl))
 ·refine ae Qf (ax (c:=w8 a b) (λh3=>ab (apX)) λh3=>ax (c:=a.ptr) (λh4=>ax (c:=b.ptr) (λh5=>ab (KT)) λh5=>ab (KT)) λh4=>ax (c:=a.null) (λh5=>ax (c:=b.ptr) (λh6=>ab (V2)) λh6=>ab (V2)) λh5=>ab (KT))
 ·exact ae Qf (ab (by simp only [pn,h1,h2,yv,h3,h4,bT,bM];rfl))
 ·refine ax (λh5=>ax (λh6=>two _ ?_) λh6=>ab ?_) λh5=>ab ?_
  ·simp only [pn,h1,h2,yv,h3,h4,zA,h5,h6,C9,bT,bM];cases om a<;>rfl
  ·simp only [pn,h1,h2,yv,h3,h4,zA,h5,h6,bT,bM];rfl
  ·simp only [pn,h1,h2,yv,h3,h4,zA,h5,bT,bM];rfl
 ·refine ax (λh5=> ?_) λh5=>ab ?_
  ·exfalso;simp at h3 h5;omega
  ·simp only [pn,h1,h2,yv,h3,zA,h5,bM];rfl
def aZX(p:Int)(a b:SO):Ev ab1 [cu p,aa (bJ a),aa (bJ b)] (0,[aa (bJ (pn p a b).1),av (pn p a b).2]):=by
 refine bj aIe (ae (aOM a b) (ae (aYn p) (ax (c:=zC p) (λh1=> ?_) λh1=>ae (aYl p) (ax (c:=BT p) (λh2=> ?_) λh2=>ae (aYk p) (ax (c:=yv p) (λh3=> ?_) λh3=>ae (aYj p) (ax (c:=zA p) (λh4=> ?_) λh4=> ?_))))))
 ·exact ab (by simp only [pn,h1,bT];rfl)
 ·refine ax (c:=w8 a b) (λh3=>ab (apX)) λh3=>ax (c:=a.ptr) (λh4=>ax (c:=b.ptr) (λh5=>ab (KT)) λh5=>ab (KT)) λh4=>ax (c:=a.null) (λh5=>ax (c:=b.ptr) (λh6=>ab (V2)) λh6=>ab (V2)) λh5=>ab (KT)
 ·exact ab (by simp only [pn,h1,h2,h3,bT,bM];rfl)
 ·refine ae (E7 a) (ax (c:=om a) (λh5=>ae (E7 b) (ab ?_)) λh5=>ab ?_)
  ·exact apb
  ·exact apb
 ·exact ab (by simp only [pn,h1,h2,h3,h4,bM];rfl)
def qG(l:List OB):cj->Bool->Int->Int->Int×Int
 | [],_,lo,hi=>(lo,hi)
 |x::xs,true,_,_=>qG l xs false (rS (cW l x).lo (cW l x).lo) (imax (cW l x).hi (cW l x).hi)
 |x::xs,false,lo,hi=>qG l xs false (rS lo (cW l x).lo) (imax hi (cW l x).hi)
def uA(l:List OB)(s:SO):SO×Bool:=bif (bif s.ptr then true else s.null)then(⟨false,false,[],(qG l s.set true 0 0).1,(qG l s.set true 0 0).2⟩,true)else(uI,false)
def zi0{i:Nat}:((i:Int)==0)=(i==0):=by
 cases i with
 |zero=>rfl
 |succ n=>exact eE
def aX4{en:Int}(hs:s.set.length<=mx)(hi:∀x∈s.set,ib x l.length=true):
 Ev ZW [aa [dg (cg l),iI en],aa (bJ s)] (0,[aa (sT (bJ (uA l s).1) Hz),av (uA l s).2,aw (ints (uA l s).1.set)]):=by
 have h:=fP (m:=s.set.length) (P:=λi=>∀lo hi:Int,bS Ja [aw (ints s.set),iI (ln (ints s.set)),iI (i:Int),aa [dg (cg l),iI en],aa [aT,aT,.ak 2,iI lo,iI hi],aw []]
  (0,[aa [dg (cg l),iI en],aa [aT,aT,.ak 2,iI (qG l (s.set.drop i) (i==0) lo hi).1,iI (qG l (s.set.drop i) (i==0) lo hi).2],aw []]))
  (λlo hi=>aY aiI (au dw (ab (by rw [jE];rfl))))
  λi h ih lo eJ=>aY aiI<|aV (cZ h)<|az (cw h)<|by
   have hx:=hi s.set[i] (cY h);rw [gf h,ix h hs];rw [show gI [iI s.set[i]] 0=s.set[i]from rfl,show gR [dg (cg l),iI en] 0=cg l from rfl,qX hx];exact asj
 have h0:=h 0 0;rw [nU]at h0;have fin:E (λN m=>bO (Ja (FU CX EE N) N N [aw (gR (bJ s) 2),iI (ln (gR (bJ s) 2)),iI 0,aa [dg (cg l),iI en],aa [aT,aT,.ak 2,iI 0,iI 0],aw []]) λ_ o2=>some (0,[aa (sT (aF xF 0 (gC o2 1)) Hz),c5,aw (gR o2 2)]))
  (0,[aa (sT (bJ ⟨false,false,[],(qG l s.set true 0 0).1,(qG l s.set true 0 0).2⟩) Hz),c5,aw (ints [])]):=ae h0.diag aD
 refine bj aA8 (E2 azK (xU (c:= !s.ptr) (λh1=>xU (c:= !s.null) (λh2=>rH (bm (ab ?_))) λh2=>rH (bh ?_)) λh1=>rH (bh ?_)))
 ·have:(bif s.ptr then true else s.null)=false:=by cases hp:s.ptr<;>simp_all
  simp only [uA,this,bM];rfl
 ·have:(bif s.ptr then true else s.null)=true:=by cases hp:s.ptr<;>simp_all
  exact Vp
 ·have:(bif s.ptr then true else s.null)=true:=by cases hp:s.ptr<;>simp_all
  exact Vp
def aX3(hs:s.set.length<=mx)(hi:∀x∈s.set,ib x l.length=true):
 Ev abX [dg (cg l),aa (bJ s)] (0,[aa (sT (bJ (uA l s).1) Hz),av (uA l s).2,aw (ints (uA l s).1.set)]):=by
 have h:=fP (m:=s.set.length) (P:=λi=>∀lo hi:Int,bS Jx [dg (cg l),iI (i:Int),aa (bJ s),aa [aT,aT,.ak 2,iI lo,iI hi],aw []]
  (0,[aa (bJ s),aa [aT,aT,.ak 2,iI (qG l (s.set.drop i) (i==0) lo hi).1,iI (qG l (s.set.drop i) (i==0) lo hi).2],aw []]))
  (λlo hi=>aY ajR (au (dw (l:=s.set)) (ab (by rw [jE];rfl))))
  λi h ih lo eJ=>aY ajR<|aV (cZ (l:=s.set) h)<|az (cw (l:=s.set) h)<|by
   have hx:=hi s.set[i] (cY h);rw [show gR (bJ s) 2=ints s.set from rfl,gf h,ix h hs];rw [show gI [iI s.set[i]] 0=s.set[i]from rfl,qX hx];exact asj
 have h0:=h 0 0;rw [nU]at h0;have fin:E (λN m=>bO (Jx (FU CX EE N) N N [dg (cg l),iI 0,aa (bJ s),aa [aT,aT,.ak 2,iI 0,iI 0],aw []]) λ_ o2=>some (0,[aa (sT (aF xF 0 (gC o2 1)) Hz),c5,aw (gR o2 2)]))
  (0,[aa (sT (bJ ⟨false,false,[],(qG l s.set true 0 0).1,(qG l s.set true 0 0).2⟩) Hz),c5,aw (ints [])]):=ae h0.diag aD
 refine bj aH8 (E2 aGs (xU (c:= !s.ptr) (λh1=>xU (c:= !s.null) (λh2=>rH (bm (ab ?_))) λh2=>rH (bh ?_)) λh1=>rH (bh ?_)))
 ·have:(bif s.ptr then true else s.null)=false:=by cases hp:s.ptr<;>simp_all
  simp only [uA,this,bM];rfl
 ·have:(bif s.ptr then true else s.null)=true:=by cases hp:s.ptr<;>simp_all
  exact Vp
 ·have:(bif s.ptr then true else s.null)=true:=by cases hp:s.ptr<;>simp_all
  exact Vp
end
end Go.Proofs.B.C
namespace Go.ah
def G9{p:Prop}(h:p:=by simp only [mx];omega):p:=h
end Go.ah
namespace Go.ah
def ada:=@List.mem_filter
def TP:=@List.filter_cons_of_neg
def acM:=@List.filter_cons_of_pos
end Go.ah
namespace Go.Proofs.B.C
open Go Go.ah
section
variable{p:Int}{l:List OB}{us vs:List SO}{n:Nat}{a a' b b' s:SO}{m:cj}
structure _root_.Go.Proofs.B.SO.Rel(s t:SO):Prop where
 ptr:s.ptr=t.ptr
 null:s.null=t.null
 lo:s.lo=t.lo
 hi:s.hi=t.hi
 set:∀x,x∈s.set ↔ x∈t.set
structure _root_.Go.Proofs.B.SO.Inv(n:Nat)(s:SO):Prop where
 nd:s.set.Nodup
 mX:∀x∈s.set,ib x n=true
structure RI(n:Nat)(s t:SO):Prop where
 l:s.Inv n
 r:t.Inv n
 rel:s.Rel t
def mR{x:Int}:ib x n=true ↔ 0<=x/\x<n:=by simp [ib]
def N2:∀(n:Nat) (l:cj),l.Nodup->(∀x∈l,ib x n=true)->l.length<=n
 |0,l,_,h=>by
  cases l with
  |nil=>simp
  |cons x xs=>have:=mR.1 (h x (by simp));omega
 |n+1,l,hd,h=>by
  have hle:l.length<=(l.filter λx=>x != (n:Int)).length +1:=by
   clear h
   induction l with
   |nil=>simp
   |cons x xs ih=>
    rw [Cq]at hd
    by_cases hx:x=(n:Int)
    ·subst hx;have:(xs.filter λx=>x != (n:Int))=xs:=List.filter_eq_self.2 λy hy=>by
      simp;rintro rfl;exact hd.1 hy
     rw [TP (by simp),this];simp
    ·rw [acM (Kv)];have:=ih hd.2;simp only [mh];omega
  have:=N2 n (l.filter λx=>x != (n:Int)) (hd.filter _) λx hx=>by
   rw [ada]at hx;have h1:=mR.1 (h x hx.1);have h2:x≠(n:Int):=by simpa using hx.2
   exact mR.2 ⟨h1.1,by omega⟩
  omega
def _root_.Go.Proofs.B.SO.Inv.len(h:s.Inv n):s.set.length<=n:=N2 n _ h.nd h.mX
structure OL(l:List OB):Prop where
 len:l.length<=2048
 emp:∀o∈l,o.ptr=false->o.set=[]
 nd:∀o∈l,o.set.Nodup
 mX:∀o∈l,∀x∈o.set,ib x l.length=true
def OL.ok(h:OL l){o:OB}(ho:o∈l):o.Ok:=by
 have:=N2 _ _ (h.nd o ho) (h.mX o ho);have:=h.len;show o.set.length<=mx;exact G9
def Ct{i:Int}(h:ib i l.length=true):cW l i∈l:=by
 have:=mR.1 h;have h2:i.toNat<l.length:=by omega
 simp only [cW,pA,c8 h2,qm];exact cY h2
def _root_.Go.Proofs.B.SO.Inv.le(h:s.Inv n)(hn:n<=2048):s.set.length<=mx:=by have:=h.len;show s.set.length<=1048576;omega
inductive RL(n:Nat):List SO->List SO->Prop
 |nil:RL n [] []
 |cons{a b:SO}{us vs:List SO}(h:RI n a b)(t:RL n us vs):RL n (a::us) (b::vs)
def RL.len(h:RL n us vs):us.length=vs.length:=by
 induction h with
 |nil=>rfl
 |cons _ _ ih=>simp [ih]
def RL.snoc(h:RL n us vs)(F8:RI n a b):RL n (us++[a]) (vs++[b]):=by
 induction h with
 |nil=>exact .cons F8 .nil
 |cons h _ ih=>exact .cons h ih
def RL.at{n:Nat}{us vs:List SO}(h:RL n us vs){i:Nat}(ha:i<us.length)(hb:i<vs.length):RI n us[i] vs[i]:=by
 induction h generalizing i with
 |nil=>simp at ha
 |cons h _ ih=>
  cases i with
  |zero=>exact h
  |succ i=>exact ih (by simpa using ha) (G6)
def GW{l:cj}{n:Int}:ei l n=true ↔ n∈l:=by simp [ei]
def aMU{l:cj}(h:∀x,x∈l ↔ x∈m)(p:Int->Bool):l.any p=m.any p:=by
 rw [TT,ac6,ac6];exact⟨λ⟨x,h1,h2⟩=>⟨x,(h x).1 h1,h2⟩,λ⟨x,h1,h2⟩=>⟨x,(h x).2 h1,h2⟩⟩
def aKu{l:cj}(h:∀x,x∈l ↔ x∈m)(b:cj):Bw l b=Bw m b:=by unfold Bw;rw [aMU h]
def _root_.Go.Proofs.B.SO.Rel.om{s t:SO}(h:s.Rel t):om s=Go.Proofs.B.C.om t:=by unfold Go.Proofs.B.C.om;rw [h.ptr,h.lo,h.hi]
def _root_.Go.Proofs.B.SO.Rel.re{s t:SO}(h:s.Rel t)(o:OB):re s o=Go.Proofs.B.C.re t o:=by unfold Go.Proofs.B.C.re;rw [h.ptr,h.null,h.lo,h.hi,aKu h.set]
def aLE(ha:a.Rel a')(hb:b.Rel b'):pn p a b=pn p a' b':=by
 have h1:w8 a b=w8 a' b':=by unfold w8;rw [ha.ptr,hb.ptr]
 unfold pn PQ C9;rw [h1,ha.ptr,hb.ptr,ha.null,hb.null,ha.om,hb.om]
def Ox(h:s.set=[]):s.Inv n:=⟨by rw [h];exact yQ,λx hx=>by rw [h]at hx;simp at hx⟩
def rel_refl(s:SO):s.Rel s:=⟨rfl,rfl,rfl,rfl,λ_=>Iff.rfl⟩
def z8(h:s.set=[]):RI n s s:=⟨Ox h,Ox h,rel_refl s⟩
def aLF:RI n (pn p a b).1 (pn p a b).1 :=by
 refine z8 ?_;unfold pn;cases zC p<;>cases BT p<;>cases yv p<;>cases zA p<;>rfl
def amu(l:List OB):∀(xs:cj) (lo hi:Int),(∀v,(qG l xs false lo hi).1 <=v ↔ lo<=v∨∃x∈xs,(cW l x).lo <=v)/\(∀v,v<=(qG l xs false lo hi).2 ↔ v<=hi∨∃x∈xs,v<=(cW l x).hi)
 | [],lo,hi=>by simp [qG]
 |x::xs,lo,hi=>by
  obtain⟨h1,h2⟩:=amu l xs (rS lo (cW l x).lo) (imax hi (cW l x).hi);constructor
  ·intro v;rw [qG,h1];have:rS lo (cW l x).lo <=v ↔ lo<=v∨(cW l x).lo <=v:=by unfold rS;split<;>omega
   rw [this];simp [or_assoc]
  ·intro v;rw [qG,h2];have:v<=imax hi (cW l x).hi ↔ v<=hi∨v<=(cW l x).hi :=by unfold imax;split<;>omega
   rw [this];simp [or_assoc]
def anl(l:List OB)(xs:cj)(h:xs≠ []):(∀v,(qG l xs true 0 0).1 <=v ↔∃x∈xs,(cW l x).lo <=v)/\(∀v,v<=(qG l xs true 0 0).2 ↔∃x∈xs,v<=(cW l x).hi):=by
 cases xs with
 |nil=>exact absurd rfl h
 |cons x xs=>
  obtain⟨h1,h2⟩:=amu l xs (rS (cW l x).lo (cW l x).lo) (imax (cW l x).hi (cW l x).hi);have e1:rS (cW l x).lo (cW l x).lo =(cW l x).lo :=by unfold rS;split<;>rfl
  have e2:imax (cW l x).hi (cW l x).hi =(cW l x).hi :=by unfold imax;split<;>rfl
  rw [e1,e2]at h1 h2;constructor
  ·intro v;rw [qG,e1,e2,h1];simp
  ·intro v;rw [qG,e1,e2,h2];simp
def aMi{xs ys:cj}(h:∀x,x∈xs ↔ x∈ys):qG l xs true 0 0=qG l ys true 0 0:=by
 by_cases hx:xs=[]
 ·have:ys=[]:=by
   cases ys with
   |nil=>rfl
   |cons y ys=>have:=(h y).2 (by simp);rw [hx]at this;simp at this
  rw [hx,this]
 ·have hy:ys≠ []:=by
   intro hy;cases xs with
   |nil=>exact hx rfl
   |cons x xs=>have:=(h x).1 (by simp);rw [hy]at this;simp at this
  obtain⟨a1,a2⟩:=anl l xs hx;obtain⟨b1,b2⟩:=anl l ys hy;have e:∀(p:Int->Prop),(∃x∈xs,p x) ↔∃x∈ys,p x:=λp=>⟨λ⟨x,q,r⟩=>⟨x,(h x).1 q,r⟩,λ⟨x,q,r⟩=>⟨x,(h x).2 q,r⟩⟩;refine Prod.ext ?_ ?_
  ·refine Int.le_antisymm ?_ ?_
   ·rw [a1,e λx=>(cW l x).lo <=_,<-b1];exact vR _
   ·rw [b1,<-e λx=>(cW l x).lo <=_,<-a1];exact vR _
  ·refine Int.le_antisymm ?_ ?_
   ·rw [b2,<-e λx=>_<=(cW l x).hi,<-a2];exact vR _
   ·rw [a2,e λx=>_<=(cW l x).hi,<-b2];exact vR _
def aKI{t:SO}(h:s.Rel t):uA l s=uA l t:=by
 unfold uA;rw [h.ptr,h.null,aMi h.set]
def aKH:(uA l s).1.set =[]:=by
 unfold uA;cases(bif s.ptr then true else s.null)<;>rfl
def tT(a b:SO):Bool:=bif !a.ptr&& !b.ptr then true else(a.ptr||a.null)&&(b.ptr||b.null)
structure Dy(a b s:SO):Prop where
 ptr:s.ptr=(a.ptr||b.ptr)
 null:s.null=false
 lo:s.lo=bif a.ptr||b.ptr then 0 else rS a.lo b.lo
 hi:s.hi=bif a.ptr||b.ptr then 0 else imax a.hi b.hi
 set:∀x,x∈s.set ↔ (a.ptr=true/\x∈a.set)∨(b.ptr=true/\x∈b.set)
def Dy.rel{s':SO}(ha:a.Rel a')(hb:b.Rel b')(h:Dy a b s)(h':Dy a' b' s'):s.Rel s':=
 ⟨by rw [h.ptr,h'.ptr,ha.ptr,hb.ptr],by rw [h.null,h'.null],by rw [h.lo,h'.lo,ha.ptr,hb.ptr,ha.lo,hb.lo],by rw [h.hi,h'.hi,ha.ptr,hb.ptr,ha.hi,hb.hi],λx=>by rw [h.set,h'.set,ha.ptr,hb.ptr,ha.set,hb.set]⟩
def aLn(ha:a.Rel a')(hb:b.Rel b'):tT a b=tT a' b':=by unfold tT;rw [ha.ptr,hb.ptr,ha.null,hb.null]
def Dy.mX{n:Nat}{a b s:SO}(ha:a.Inv n)(hb:b.Inv n)(h:Dy a b s):∀x∈s.set,ib x n=true:=λx hx=>by
 rcases(h.set x).1 hx with⟨_,h⟩|⟨_,h⟩
 ·exact ha.mX x h
 ·exact hb.mX x h
end
end Go.Proofs.B.C
namespace Go.ah
def EC{p:Prop}(h:p:=by rw [hp];rfl):p:=h
def aeN{p:Prop}(h:p:=by rw [GW.2 hm]at hi;cases hi):p:=h
def apv{p:Prop}(h:p:=by cases h1:a.ptr<;>cases h2:a.null<;>simp_all):p:=h
def apu{p:Prop}(h:p:=by cases h1:b.ptr<;>cases h2:b.null<;>simp_all):p:=h
def U4{p:Prop}(h:p:=by rw [hp,hq];rfl):p:=h
def aeu{p:Prop}(h:p:=by rw [ea']at h;cases h):p:=h
end Go.ah
namespace Go.ah
def adb:=@List.nodup_append
def N8:=@Bool.or_eq_false_iff
end Go.ah
namespace Go.Proofs.B.C
open Go Go.ah
section
variable{i:Int}{n:Nat}{c:SO}{rows:aE}{acc l:cj}
def inV(n:Int)(hl:l.length<=mx):Ev Tr [iI n,aw (ints l)] (0,[av (ei l n),aw (ints l)]):=by
 have h:=CQ (l:=l) (p:=(·==n)) (hit:=(0,[c5,aw (ints l)])) (done:=(1,[aw (ints l)])) (LF:=λi N m=>SX (FU CX EE N) N m [iI n,iI (i:Int),aw (ints l)])
  (aY akC (au dw aD))
  λi hi r h1 h2=>aY akC<|aV (cZ hi)<|az (cw hi)<|az (EF)<|afC
 refine bj aIT (ae h.diag ?_);unfold ei;cases l.any (·==n)<;>exact aD
def pH:cj->cj->cj
 |acc,[]=>acc
 |acc,x::xs=>pH (bif ei acc x then acc else acc++[x]) xs
def adK:∀(acc xs:cj) (y:Int),y∈pH acc xs ↔ y∈acc∨y∈xs
 |acc,[],y=>by simp [pH]
 |acc,x::xs,y=>by
  rw [pH,adK];cases h:ei acc x with
  |true=>
   have:=GW.1 h;simp only [bT,iz];constructor
   ·rintro(h|h)
    ·exact .inl h
    ·exact .inr (.inr h)
   ·rintro(h|rfl|h)
    ·exact .inl h
    ·exact .inl this
    ·exact .inr h
  |false=>simp only [bM,nA,iz,GO,GN];exact or_assoc
def NT{x:Int}(h:l.Nodup)(hx:x∉l):(l++[x]).Nodup :=by
 rw [adb];exact⟨h,by simp,λa ha b hb=>by simp at hb;subst hb;rintro rfl;exact hx ha⟩
def acq:∀(acc xs:cj),acc.Nodup->(pH acc xs).Nodup
 |acc,[],h=>h
 |acc,x::xs,h=>by
  rw [pH];refine acq _ xs ?_;cases hi:ei acc x with
  |true=>exact h
  |false=>exact NT h λhm=>aeN
def anK{xs:cj}(h1:∀x∈acc,ib x n=true)(h2:∀x∈xs,ib x n=true):∀x∈pH acc xs,ib x n=true:=λx hx=>by
 rcases(adK acc xs x).1 hx with h|h
 ·exact h1 x h
 ·exact h2 x h
abbrev z2:aq:=[aT,aT,.ak 2,iI 0,iI 0]
abbrev z3:aq:=[aT,aT,.ak 3,iI 0,iI 0]
abbrev z4:aq:=[aT,aT,.ak 4,iI 0,iI 0]
abbrev p2:aq:=[c5,aT,.ak 2,iI 0,iI 0]
abbrev p4:aq:=[c5,aT,.ak 4,iI 0,iI 0]
def aNC(hn:n<=2048)(h1:ib i rows.length=true)(h2:gA rows i.toNat=bJ c)(hc:c.Inv n)(x:aq)(hx:sT (aF xF 0 x) aPR=x):
 ∀acc:cj,acc.Nodup->(∀y∈acc,ib y n=true)->bS Gi [iI i,iI 0,aa x,j7 rows,aw (ints acc)]
  (0,[aa x,j7 rows,aw (ints (bif c.ptr then pH acc c.set else acc))]):=by
 have h3:decide (i.toNat<rows.length)=true:=by have:=mR.1 h1;simp;omega
 have hJ:∀k:Int,bY aaa [iI i,iI k,j7 rows] (bif c.ptr then bif decide (k<(c.set.length:Int))then(0,[j7 rows])else(1,[j7 rows])else(1,[j7 rows])):=λk=>by
  refine bX aBE (az h1 (az h3 ?_));rw [h2];refine ax (c:=c.ptr) (λhp=>az h1 (az h3 ?_)) λhp=>ab (EC);rw [show gR (bJ c) 2=ints c.set from rfl,c9];exact ax (λhq=>ab (U4)) λhq=>ab (U4)
 cases hp:c.ptr with
 |false=>
  intro acc _ _;have hJ:=hJ 0;rw [hp]at hJ;exact aY ZX (ae hJ (bm (ab (by rw [hx];rfl))))
 |true=>
  have hl:=hc.le hn;have h:=fP (m:=c.set.length) (P:=λk=>∀acc:cj,acc.Nodup->(∀y∈acc,ib y n=true)->bS Gi [iI i,iI (k:Int),aa x,j7 rows,aw (ints acc)]
   (0,[aa x,j7 rows,aw (ints (pH acc (c.set.drop k)))]))
   (λacc _ _=>by
     have hJ:=hJ (c.set.length:Int);rw [hp,show decide ((c.set.length:Int)<(c.set.length:Int))=false by simp]at hJ;exact aY ZX (ae hJ (bm (ab (by rw [hx,jE];rfl)))))
   λk hk ih acc ha hr=>by
    have hJ:=hJ (k:Int);rw [hp,show decide ((k:Int)<(c.set.length:Int))=true by simpa using hk]at hJ;have hla:acc.length<=n:=N2 n _ ha hr;refine aY ZX (ae hJ (bh ?_));rw [show gR (bif true then bif true then(0,[j7 rows])else(1,[j7 rows])else(1,[j7 rows])).2 0=rows from rfl,hx,h2,show gR (bJ c) 2=ints c.set from rfl,gf hk,ix hk hl];refine az h1 (az h3 (az (cw hk) (ae (inV c.set[k] (by show acc.length<=1048576;omega)) ?_)));rw [jj hk,pH];cases hi:ei acc c.set[k]with
    |true=>exact bm (ih acc ha hr)
    |false=>
     refine bh (az h1 (az h3 (az (cw hk) (az ?_ ?_))))
     ·rw [show gR (0,[aT,aw (ints acc)]).2 1=ints acc from rfl,dW];simp;omega
     ·have:=ih (acc++[c.set[k]]) (NT ha λhm=>aeN) λy hy=>by
       rw [nA]at hy;rcases hy with hy|hy
       ·exact hr y hy
       ·simp at hy;subst hy;exact hc.mX _ (cY hk)
      have e:ints (acc++[c.set[k]])=ints acc++[[iI c.set[k]]]:=by simp
      rw [e]at this;exact iK
  intro acc ha hr;have:=h acc ha hr;rw [nU]at this;exact iK
def Oh(hn:n<=2048)(wA:decide (i<2)=true)(h1:ib i rows.length=true)(h2:gA rows i.toNat=bJ c)(hc:c.Inv n)(ha:acc.Nodup)(hr:∀y∈acc,ib y n=true){r:UO}
 (vI:(!c.ptr&& !c.null)=true->(0,[aT,aa z3,aa p4,j7 rows,aw [],aw (ints acc)])=r)
 (aYR:(!c.ptr&& !c.null)=false->bS Gp [iI (aU (i+1)),aa z3,aa p4,j7 rows,aw [],aw (ints (bif c.ptr then pH acc c.set else acc))] r):
 bS Gp [iI i,aa z3,aa p4,j7 rows,aw [],aw (ints acc)] r:=by
 have h3:decide (i.toNat<rows.length)=true:=by have:=mR.1 h1;simp;omega
 refine aY ajU (aV wA (E2 aCl (Kl h1 (Kl h3 ?_))));rw [h2];have go:(!c.ptr&& !c.null)=false->E (λN m=>bO (Gi (FU CX EE N) N N [iI i,iI 0,aa p2,j7 rows,aw (ints acc)]) λ_ o5=>Gp (FU CX EE N) N m [iI (aU (i+1)),aa z3,aa (sT (aF xF 0 (gC o5 0)) Xw),j7 (gR o5 1),aw [],aw (gR o5 2)]) r:=λh=>
  ae (aNC hn h1 h2 hc p2 rfl acc ha hr).diag (aYR h)
 refine xU (c:= !c.ptr) (λhp=>Kl h1 (Kl h3 (xU (c:= !c.null) (λhq=>rH (bm (ab (vI (U4))))) λhq=>rH (bh (go (U4)))))) λhp=>rH (bh (go (EC)))
def aO3(hn:n<=2048){a b:SO}(ha:a.Inv n)(hb:b.Inv n):∃s,Ev Tf [aa (bJ a),aa (bJ b)] (0,[aa (bJ s),av (tT a b)])/\(tT a b=true->s.Inv n/\Dy a b s):=by
 have hJ:bY abg [aa (bJ a),aa (bJ b)] (0,[av (a.ptr||b.ptr),aa (bJ a),aa (bJ b)]):=
  bX aFu (ax (c:=a.ptr) (λh=>ab (iW)) λh=>ab (iW))
 have AM:(!a.ptr&& !b.ptr)= !(a.ptr||b.ptr):=by cases a.ptr<;>cases b.ptr<;>rfl
 cases hp:(a.ptr||b.ptr)with
 |false=>
  rw [hp]at hJ;have e:tT a b=true:=by unfold tT;rw [AM,hp];rfl
  refine⟨⟨false,false,[],rS a.lo b.lo,imax a.hi b.hi⟩,bj aln (ae hJ (bm (ab (by rw [e];rfl)))),λ_=>⟨Ox rfl,⟨hp.symm,rfl,EC,EC,λx=> ?_⟩⟩⟩;rw [N8]at hp;simp [hp.1,hp.2]
 |true=>
  rw [hp]at hJ;have e:tT a b=((a.ptr||a.null)&&(b.ptr||b.null)):=by unfold tT;rw [AM,hp];rfl
  have frm:∀o:UO,bS Gp [iI 0,aa z3,aa p4,j7 [bJ a,bJ b],aw [],aw []] o->∀r,E (λN m=>bif Nat.beq o.1 0 then some (0,[aa (sT (aF nc 0 (gC o.2 1)) [(2,aw (gR o.2 4))]),av (gB o.2 0)])else some (0,[aa (sT (aF nc 0 (gC o.2 1)) [(2,aw (gR o.2 4))]),c5])) r->Ev Tf [aa (bJ a),aa (bJ b)] r:=λo ho r hr=>
   bj aln (ae hJ (bh (ae ho.diag hr)))
  cases ea:(a.ptr||a.null)with
  |false=>
   have ea':(!a.ptr&& !a.null)=true:=apv;refine⟨uI,frm _ (Oh hn rfl rfl (rfl:gA [bJ a,bJ b] 0=bJ a) ha yQ (by simp) (λ_=>rfl) λh=>aeu) _ (bh (ab (by rw [e,ea];rfl))),λh=>by rw [e,ea]at h;cases h⟩
  |true=>
   have ea':(!a.ptr&& !a.null)=false:=apv;have XO:(bif a.ptr then pH [] a.set else []).Nodup :=by cases a.ptr;exact yQ;exact acq _ _ yQ
   have XI:∀y∈(bif a.ptr then pH [] a.set else []),ib y n=true:=by cases a.ptr;simp;exact anK (by simp) ha.mX
   cases eb:(b.ptr||b.null)with
   |false=>
    have eb':(!b.ptr&& !b.null)=true:=apu;refine⟨uI,frm _ (Oh hn rfl rfl (rfl:gA [bJ a,bJ b] 0=bJ a) ha yQ (by simp) (λh=>aeu) λ_=>Oh (i:=1) hn rfl rfl (rfl:gA [bJ a,bJ b] 1=bJ b) hb XO XI (λ_=>rfl) λh=>by rw [eb']at h;cases h) _ (bh (ab (by rw [e,ea,eb];rfl))),λh=>by rw [e,ea,eb]at h;cases h⟩
   |true=>
    have eb':(!b.ptr&& !b.null)=false:=apu;have nd2:(bif b.ptr then pH (bif a.ptr then pH [] a.set else []) b.set else(bif a.ptr then pH [] a.set else [])).Nodup :=by cases b.ptr;exact XO;exact acq _ _ XO
    have rg2:∀y∈(bif b.ptr then pH (bif a.ptr then pH [] a.set else []) b.set else(bif a.ptr then pH [] a.set else [])),ib y n=true:=by cases b.ptr;exact XI;exact anK XI hb.mX
    refine⟨⟨true,false,bif b.ptr then pH (bif a.ptr then pH [] a.set else []) b.set else(bif a.ptr then pH [] a.set else []),0,0⟩,frm _ (Oh hn rfl rfl (rfl:gA [bJ a,bJ b] 0=bJ a) ha yQ (by simp) (λh=>aeu) λ_=>Oh (i:=1) hn rfl rfl (rfl:gA [bJ a,bJ b] 1=bJ b) hb XO XI (λh=>by rw [eb']at h;cases h) λ_=>aY ajU (bm aD)) _ (bm (ab (by rw [e,ea,eb];rfl))),λ_=>⟨⟨nd2,rg2⟩,⟨hp.symm,rfl,EC,EC,λx=> ?_⟩⟩⟩;show x∈(bif b.ptr then pH (bif a.ptr then pH [] a.set else []) b.set else(bif a.ptr then pH [] a.set else [])) ↔ _;cases a.ptr<;>cases b.ptr<;>simp [adK]
end
end Go.Proofs.B.C
namespace Go.ah
def EH{p:Prop}(h:p:=by rw [dW];simp;omega):p:=h
def aq7{p:Prop}(h:p:=by
 match xs,hi with
 | [x],_=>exact⟨x,rfl⟩
 | [],h=>simp at h;omega
 |_::_::_,h=>simp at h;omega):p:=h
def aez{p:Prop}(h:p:=by rw [uD];exact dw):p:=h
def Kq{p:Prop}(h:p:=by rw [h1,h2];rfl):p:=h
end Go.ah
namespace Go.Proofs.B.C
open Go Go.ah
section
variable{e:CE}{la lb ls xs:List SO}{i:Nat}
theorem aNY(l:aE)(hl:l.length<=1000):E (λN _=>Fi Ee (FU CX EE N Gd) (FU CX EE N Gc) (FU CX EE N MQ) [gW l]) (0,[gW l]):=by
 cases l with
 |nil=>
  obtain⟨B,h1⟩:Ev Gd [] (0,[gW []]):=bj azM aD;obtain⟨C,h2⟩:Ev Gc [] (0,[gW []]):=bj azL aD;refine⟨B+C,λN n hN _=> ?_⟩;have h1:FU CX EE N Gd []=_:=h1 N N (by omega) (by omega);have h2:FU CX EE N Gc []=_:=h2 N N (by omega) (by omega);show Fi Ee (FU CX EE N Gd) (FU CX EE N Gc) (FU CX EE N MQ) [gW []]=_;show(bif zo Ee (FU CX EE N Gd [])&&zo Ee (FU CX EE N Gc [])then some (0,[gW []])else none)=_;exact Kq
 |cons x xs=>
  have h:Ev MQ [gW (x::xs)] (0,[gW (x::xs)]):=bj aBL (bm (az (by simp at hl⊢;omega) aD));exact h
theorem aNZ(l:aE)(hl:l.length<=100000):E (λN _=>Fi tI (FU CX EE N Jd) (FU CX EE N Jc) (FU CX EE N Si) [aw l]) (0,[aw l]):=by
 cases l with
 |nil=>
  obtain⟨B,h1⟩:Ev Jd [] (0,[aw []]):=bj aAw aD;obtain⟨C,h2⟩:Ev Jc [] (0,[aw []]):=bj aAv aD;refine⟨B+C,λN n hN _=> ?_⟩;have h1:FU CX EE N Jd []=_:=h1 N N (by omega) (by omega);have h2:FU CX EE N Jc []=_:=h2 N N (by omega) (by omega);show(bif zo tI (FU CX EE N Jd [])&&zo tI (FU CX EE N Jc [])then some (0,[aw []])else none)=_;exact Kq
 |cons x xs=>
  have h:Ev Si [aw (x::xs)] (0,[aw (x::xs)]):=bj aCq (bm (az (by simp at hl⊢;omega) aD));exact h
def pD:Prop:=∀{n:Nat},n<=2048->∀{a b:SO},a.Inv n->b.Inv n->∃s,Ev NA [aa (bJ a),aa (bJ b)] (0,[aa (sT (bJ s) Hz),av (tT a b),aw (ints s.set)])/\(tT a b=true->s.Inv n/\Dy a b s)
abbrev sD(l:List OB)(en:Int):AV:= aa [dg (cg l),iI en]
abbrev pw(l:List OB)(ls:List SO)(en:Int):AV:= aa [dg (cg l),j7 (ls.map bJ),iI en]
theorem yk(e:CE):gI (aH e) 0=e.kind:=Bi
theorem awc(e:CE):gI (aH e) 1=e.op:=Bi
theorem P9(e:CE):gI (aH e) 2=e.N:=Bi
theorem Lp(e:CE):gI (aH e) 3=e.O:=Bi
def uX(e:CE)(i:Nat)(ls xs:List SO):List SO:=bif e.kind==10 then bif (i:Int)==1 then ls++[xs.getD 0 uI]else ls else ls
theorem arC(hi:i=xs.length)(hl:ls.length<=900):bY Zu [gW (ls.map bJ),iI (i:Int),gW (ls.map bJ),aa (aH e),gW (xs.map bJ)]
 (0,[gW ((uX e i ls xs).map bJ),aa (aH e),gW (xs.map bJ)]):=by
 refine bX azm ?_;rw [yk,e7];refine ax (λh1=>ax (λh2=> ?_) λh2=>ab ?_) λh1=>ab ?_
 ·have h3:(i:Int)=1:=by simpa using h2
  obtain⟨x,hx⟩:∃x,xs=[x]:=aq7;subst hx;refine ae (aNY _ (eE)) (az rfl (az rfl (az ?_ (ab ?_))))
  ·rw [show gR (0,[gW (ls.map bJ)]).2 0=ls.map bJ from rfl,dW];simp;omega
  ·simp only [uX,h1,h2,bT,sR];rfl
 ·simp only [uX,h1,h2,bT,bM]
 ·simp only [uX,h1,bM]
theorem arR{l:List OB}{en:Int}(hi:i=xs.length)(hl:ls.length<=900):bY aba [iI (i:Int),pw l ls en,aa (aH e),j7 (xs.map bJ),pw l ls en]
 (0,[pw l ls en,aa (aH e),j7 (xs.map bJ),pw l (uX e i ls xs) en]):=by
 refine bX aFp ?_;rw [yk,e7];refine ax (λh1=>ax (λh2=> ?_) λh2=>ab ?_) λh1=>ab ?_
 ·have h3:(i:Int)=1:=by simpa using h2
  obtain⟨x,hx⟩:∃x,xs=[x]:=aq7;subst hx;refine az ?_ (az rfl (az rfl (az ?_ (ab ?_))))
  ·show decide ((0+(ls.map bJ).length)*48<=140737488355328)=true;rw [dW];simp;omega
  ·show decide ((([]++ls.map bJ).length +1)*48<=140737488355328)=true;rw [rF,dW];simp;omega
  ·simp only [uX,h1,h2,bT,pw,sR];rfl
 ·simp only [uX,h1,h2,bT,bM];rfl
 ·simp only [uX,h1,bM];rfl
theorem art:∀{l:List CE} {y:CE},y∈l->wG y<=wj l
 |x::xs,y,h=>by
  simp only [wj];rcases iz.1 h with rfl|h
  ·omega
  ·have:=art h;omega
section
variable {l:List OB} (ol:OL l) (en:Int)
inductive vO(n:Nat):CE->Prop
 |mk(e:CE)(h:(e.kind==2||e.kind==3||e.kind==12)=true->ib e.O n=true)(hk:∀y∈e.L,vO n y)(hf:oL e=true):vO n e
def afj(l:List OB)(en:Int)(e:CE):Prop:=∀la lb:List SO,RL l.length la lb->la.length+wG e<=900->∃s b,
 Ev M5 [sD l en,aa (aH e),gW (la.map bJ)] (0,[aa (bJ s),av b])/\(b=true->∃t,Ev N5 [pw l lb en,aa (aH e)] (0,[aa (bJ t),av b])/\RI l.length s t/\vO l.length e)
theorem aN2:(uX e i ls xs).length <=ls.length+1:=by
 unfold uX;cases e.kind==10<;>cases(i:Int)==1<;>simp
theorem aPX{n:Nat}{ys:List SO}(h:RL n la lb)(hx:RL n xs ys)(hi:i=xs.length):RL n (uX e i la xs) (uX e i lb ys):=by
 unfold uX;cases e.kind==10 with
 |false=>exact h
 |true=>
  cases h2:(i:Int)==1 with
  |false=>exact h
  |true=>
   have h3:(i:Int)=1:=uu;have hl:=hx.len;have:=hx.at (i:=0) (by omega) (by omega);refine h.snoc ?_;rw [pA,pA,c8 (by omega),c8 (by omega)];exact iK
theorem elems(aX:e.Ok)(hn:e.L.length<=1000)(ih:∀y∈e.L,afj l en y)(F8:RL l.length la lb)(hd:la.length+wG e<=900):
 (∃xs ys,RL l.length xs ys/\xs.length=e.L.length/\(∀y∈e.L,vO l.length y)/\
   bS AX [gW (la.map bJ),bR (e.L.map aH),iI (ln (e.L.map aH)),iI 0,sD l en,aa (aH e),aa z4,gW [],aw []]
    (1,[sD l en,aa (aH e),aa z4,gW (xs.map bJ),aw []])/\
   bS Ec [iI 0,pw l lb en,aa (aH e),aa z4,j7 [],aw []]
    (1,[pw l lb en,aa (aH e),aa z4,j7 (ys.map bJ),aw []]))∨
 (bS AX [gW (la.map bJ),bR (e.L.map aH),iI (ln (e.L.map aH)),iI 0,sD l en,aa (aH e),aa z4,gW [],aw []]
     (0,[aT,sD l en,aa (aH e),aa z3,aw []])):=by
 have hlb:=F8.len;have h:=fP (m:=e.L.length) (P:=λi=>∀us vs,RL l.length us vs->us.length=i->
  (∃xs ys,RL l.length xs ys/\xs.length=e.L.length/\(∀y∈e.L.drop i,vO l.length y)/\
    bS AX [gW (la.map bJ),bR (e.L.map aH),iI (ln (e.L.map aH)),iI (i:Int),sD l en,aa (aH e),aa z4,gW (us.map bJ),aw []]
     (1,[sD l en,aa (aH e),aa z4,gW (xs.map bJ),aw []])/\
    bS Ec [iI (i:Int),pw l lb en,aa (aH e),aa z4,j7 (vs.map bJ),aw []]
     (1,[pw l lb en,aa (aH e),aa z4,j7 (ys.map bJ),aw []]))∨
  (bS AX [gW (la.map bJ),bR (e.L.map aH),iI (ln (e.L.map aH)),iI (i:Int),sD l en,aa (aH e),aa z4,gW (us.map bJ),aw []]
      (0,[aT,sD l en,aa (aH e),aa z3,aw []])))
  (λus vs QJ hu=> .inl ⟨us,vs,QJ,hu,by rw [jE];simp,aY ai5 (au dw (ab (by rw [e7];rfl))),
    aY akw (au (aez) (ab (by rw [e7];rfl)))⟩)
  λi hi gN us vs QJ hu=>by
   have DN:=QJ.len;have AP:=art (cY hi);have qH:=O4 e;have hal:=aN2 (e:=e) (i:=i) (ls:=la) (xs:=us);obtain⟨s,b,h1,h3⟩:=ih e.L[i] (cY hi) (uX e i la us) (uX e i lb vs) (aPX F8 QJ hu.symm) (by omega);have cr:∀r,E (λN m=>bif !(gB (0,[aa (bJ s),av b]).2 1)then some (0,[aT,sD l en,aa (aH e),aa z3,aw []])else AX (FU CX EE N) N m [gW (la.map bJ),bR (e.L.map aH),iI (ln (e.L.map aH)),iI ((i+1:Nat):Int),sD l en,aa (aH e),aa z4,gW ((us++[s]).map bJ),aw []]) r->
    bS AX [gW (la.map bJ),bR (e.L.map aH),iI (ln (e.L.map aH)),iI (i:Int),sD l en,aa (aH e),aa z4,gW (us.map bJ),aw []] r:=λr hr=>by
    refine aY ai5 (aV (cZ hi) (az (cw hi) ?_));rw [e7];refine ae (arC hu.symm (by omega)) ?_;rw [vW hi,ix hi aX.len,show gC (0,[gW ((uX e i la us).map bJ),aa (aH e),gW (us.map bJ)]).2 1=aH e from rfl,e7];refine ae h1 ?_;rw [sR]at hr;cases b with
    |false=>exact hr
    |true=>
     refine bm (az ?_ hr);show decide (((us.map bJ).length +1)*48<=140737488355328)=true;exact EH
   cases b with
   |false=>exact .inr (cr _ (bh aD))
   |true=>
    obtain⟨t,h2,ri,eT⟩:=h3 rfl;have rr:∀r,bS Ec [iI ((i+1:Nat):Int),pw l lb en,aa (aH e),aa z4,j7 ((vs++[t]).map bJ),aw []] r->
     bS Ec [iI (i:Int),pw l lb en,aa (aH e),aa z4,j7 (vs.map bJ),aw []] r:=λr hr=>by
     refine aY akw (aV (by rw [uD];exact cZ hi) ?_);rw [e7];refine ae (arR (l:=l) (en:=en) (e:=e) (i:=i) (ls:=lb) (xs:=vs) (by omega) (by omega)) ?_;rw [show gC (0,[pw l lb en,aa (aH e),j7 (vs.map bJ),pw l (uX e i lb vs) en]).2 1=aH e from rfl,uD,e7];refine az (cw hi) ?_;rw [vW hi,ix hi aX.len];refine ae h2 (bm (az ?_ ?_))
     ·show decide (((vs.map bJ).length +1)*48<=140737488355328)=true;exact EH
     ·rw [sR]at hr;exact hr
    rcases gN (us++[s]) (vs++[t]) (QJ.snoc ri) (by simp [hu])with⟨xs,ys,q1,q2,q0,q3,q4⟩|q1
    ·refine .inl ⟨xs,ys,q1,q2,λy hy=> ?_,cr _ (bm q3),rr _ q4⟩;rw [jj hi]at hy;rcases iz.1 hy with rfl|hy
     ·exact eT
     ·exact q0 y hy
    ·exact .inr (cr _ (bm q1))
 exact h [] [] .nil rfl
end
end
end Go.Proofs.B.C
namespace Go.ah
def aqR{p:Prop}(h:p:=by
 unfold oL at hf;simp only [bA]at hf;exact hf.1.1.1.1.1.1.1):p:=h
end Go.ah
namespace Go.Proofs.B.C
open Go Go.ah
section
variable{e:CE}{r:UO}
section
variable {l:List OB} (en:Int)
theorem am7{la xs:List SO}(hf:oL e=true)
 (hl:bS AX [gW (la.map bJ),bR (e.L.map aH),iI (ln (e.L.map aH)),iI 0,sD l en,aa (aH e),aa z4,gW [],aw []] r):
 bY Sb [gW (la.map bJ),sD l en,aa (aH e),aa z4,gW [],aw []]
  (bif Nat.beq r.1 0 then(1,[av (gB r.2 0),aa [dg (gR (gC r.2 1) 0),iI (gI (gC r.2 1) 1)],aa (aF qP 0 (gC r.2 2)),aa (sT (aF xF 0 (gC r.2 3)) Px),aw (gR r.2 4)])
    else(0,[aa [dg (gR (gC r.2 0) 0),iI (gI (gC r.2 0) 1)],aa (aF qP 0 (gC r.2 1)),aa (sT (aF xF 0 (gC r.2 2)) Xw),gW (gR r.2 3),aw (gR r.2 4)])):=by
 refine bX aA1 ?_;rw [uD,e7];refine ae hl.diag (ax (λh=>ab (iW)) λh=>ab (iW))
theorem aKw{lb:List SO}
 (hl:bS Ec [iI 0,pw l lb en,aa (aH e),aa z4,j7 [],aw []] r):
 bY S8 [pw l lb en,aa (aH e),aa z4,j7 [],aw []]
  (bif Nat.beq r.1 0 then(1,[av (gB r.2 0),aa (aF abC 0 (gC r.2 1)),aa (aF qP 0 (gC r.2 2)),aa (sT (aF xF 0 (gC r.2 3)) Px),aw (gR r.2 4)])
    else(0,[aa (aF abC 0 (gC r.2 0)),aa (aF qP 0 (gC r.2 1)),aa (sT (aF xF 0 (gC r.2 2)) Xw),j7 (gR r.2 3),aw (gR r.2 4)])):=by
 refine bX aHq ?_;rw [e7];refine ae hl.diag (ax (λh=>ab (iW)) λh=>ab (iW))
theorem af8(hf:oL e=true){k:Int}(hk:e.kind=k):(gg (.mk k e.op e.N e.O e.off e.len e.lo e.hi e.L)).2 =(e.L.length:Int):=by
 have h1:((gg e).2 ==(e.L.length:Int))=true:=aqR;rw [<-eq_of_beq h1,<-hk,<-CE.eta]
end
end
end Go.Proofs.B.C
namespace Go.ah
def Po{p:Prop}(h:p:=by
 cases ha:decide (0<=o)<;>rw [ha]at hs
 ·cases hs
 cases hb:decide (o<(l.length:Int))<;>rw [hb]at hs
 ·cases hs
 exact zd ha hb):p:=h
def ash{p:Prop}(h:p:=by
 show(0,[aa [av (gB (gA (cg l) o.toNat) 3),aT,aw (gR (gA (cg l) o.toNat) 4),iI (gI (gA (cg l) o.toNat) 1),iI (gI (gA (cg l) o.toNat) 2)],c5])=_;rw [qX hi];rfl):p:=h
def ar4{p:Prop}(h:p:=by
 cases h66:k==6 with
 |true=>rw [eq_of_beq h66];rfl
 |false=>rw [h66]at h6;rw [eq_of_beq (show(k==7)=true from h6)];rfl):p:=h
def ar2{p:Prop}(h:p:=by
 rw [qX hi];exact az eJ (ax (c:= !(cW l o).ptr) (λh=>az eJ (ab (by rw [hi,h];rfl))) λh=>ab (by rw [hi,h];rfl))):p:=h
def Vy{p:Prop}(h:p:=by have:(1:Int)=(xs.length:Int):=ar;omega):p:=h
def apY{p:Prop}(h:p:=by show ib o (cg l).length =true;rw [yd];exact hi):p:=h
def aex{p:Prop}(h:p:=by rw [eq_of_beq h1];rfl):p:=h
def ao3{p:Prop}(h:p:=by have:(2:Int)=(xs.length:Int):=ar;omega):p:=h
end Go.ah
namespace Go.ah
def ui:=@decide_eq_false_iff_not
end Go.ah
namespace Go.Proofs.B.C
open Go Go.ah
section
variable{xs ys:List SO}{n:Nat}
def aoB(k:Int):bY Zf [cu k] (0,[av (bif k==6 then true else k==7)]):=
 bX ayB (ax (λh=>ab (iW)) λh=>ab (iW))
def aoA(k:Int):bY aay [cu k] (0,[av (bif k==6 then true else k==7)]):=
 bX aDd (ax (λh=>ab (iW)) λh=>ab (iW))
def OJ(h:RL n xs ys)(hl:xs.length=1):∃x y,xs=[x]/\ys=[y]/\RI n x y:=by
 cases h with
 |nil=>simp at hl
 |cons h t=>cases t with
  |nil=>exact⟨_,_,rfl,rfl,h⟩
  |cons=>simp at hl
def UT(h:RL n xs ys)(hl:xs.length=2):∃x y x1 y1,xs=[x,x1]/\ys=[y,y1]/\RI n x y/\RI n x1 y1:=by
 cases h with
 |nil=>simp at hl
 |cons h t=>
  obtain⟨x1,y1,rfl,rfl,h1⟩:=OJ t (sY);exact⟨_,_,_,_,rfl,rfl,h,h1⟩
def aKq(h:RL n xs ys)(hl:xs.length=3):∃x y x1 y1 x2 y2,xs=[x,x1,x2]/\ys=[y,y1,y2]/\RI n x y/\RI n x1 y1/\RI n x2 y2:=by
 cases h with
 |nil=>simp at hl
 |cons h t=>
  obtain⟨x1,y1,x2,y2,rfl,rfl,h1,h2⟩:=UT t (sY);exact⟨_,_,_,_,_,_,rfl,rfl,h,h1,h2⟩
def aOe(hE:pD){l:List OB}(ol:OL l)(en:Int):∀e:CE,e.Ok->afj l en e:=by
 refine CE.ind λe ih aX=> ?_;intro la lb F8 hd;have hlb:=F8.len;cases hf:oL e with
 |false=>
  have hJ:=awg e z3;rw [hf]at hJ;refine⟨uI,false,bj aap ?_,λh=>aM⟩;rw [e7];refine ae (exC e) ?_;rw [show gC (0,[aa (aH (gg e).1),iI (gg e).2]).2 0=aH (gg e).1 from rfl,e7];exact ae hJ (bm aD)
 |true=>
  have hJ:=awg e z3;have hR:=aZH e;rw [hf]at hJ hR;have hn:e.L.length<=1000:=by
   have h1:((gg e).2 ==(e.L.length:Int))=true:=aqR;have h2:(gg e).2 <=3:=by
    unfold gg;generalize kN e.kind=b1;generalize (e.kind==2)=b2;generalize (e.kind==3)=b3;generalize (e.kind==4)=b4;generalize (e.kind==5)=b5;generalize kT e.kind=b6;generalize (e.kind==8)=b7;generalize (e.kind==9)=b8;generalize (e.kind==12)=b9;generalize (e.kind==13)=b10;cases b1<;>simp only [bT,bM]
    ·cases b2<;>simp only [bT,bM]
     ·cases b3<;>simp only [bT,bM]
      ·cases b4<;>simp only [bT,bM]
       ·cases b5<;>simp only [bT,bM]
        ·cases b6<;>simp only [bT,bM]
         ·cases b7<;>simp only [bT,bM]
          ·cases b8<;>simp only [bT,bM]
           ·cases b9<;>simp only [bT,bM]
            ·cases b10<;>simp only [bT,bM]<;>decide
            ·decide
           ·decide
          ·decide
         ·decide
        ·decide
       ·decide
      ·decide
     ·decide
    ·decide
   have h3:=eq_of_beq h1;omega
  have FX:∀y∈e.L,afj l en y:=λy hy=>ih y hy (aX.jt hy);rcases elems en aX hn FX F8 hd with⟨xs,ys,FY,DJ,eT,c1,r1⟩|c1
  rotate_left
  ·refine⟨uI,false,bj aap ?_,λh=>aM⟩
   ·rw [e7];refine ae (exC e) ?_;rw [show gC (0,[aa (aH (gg e).1),iI (gg e).2]).2 0=aH (gg e).1 from rfl,e7];refine ae hJ (bh ?_);simp only [bT];rw [show gC (0,[aa (aH e),aa (sT (aF xF 0 z3) Px),aa (aH (gg e).1),aw []]).2 0=aH e from rfl,e7];exact ae (am7 (xs:=[]) en hf c1) (bm aD)
  have hGC:bY Sb [gW (la.map bJ),sD l en,aa (aH e),aa z4,gW [],aw []] (0,[sD l en,aa (aH e),aa z4,gW (xs.map bJ),aw []]):=by
   have:=am7 (xs:=xs) en hf c1;rw [show gC (1,[sD l en,aa (aH e),aa z4,gW (xs.map bJ),aw []]).2 1=aH e from rfl,e7]at this;exact iK
  have hGR:bY S8 [pw l lb en,aa (aH e),aa z4,j7 [],aw []] (0,[pw l lb en,aa (aH e),aa z4,j7 (ys.map bJ),aw []]):=by
   have:=aKw en r1;rw [show gC (1,[pw l lb en,aa (aH e),aa z4,j7 (ys.map bJ),aw []]).2 1=aH e from rfl,e7]at this;exact iK
  have ar:=λk hk=>af8 hf (k:=k) hk;rw [<-DJ]at ar;clear ih FX c1 r1 DJ;have C:∀r:UO,_->Ev M5 [sD l en,aa (aH e),gW (la.map bJ)] r:=λr h=>by
   refine bj aap ?_;rw [e7];refine ae (exC e) ?_;rw [show gC (0,[aa (aH (gg e).1),iI (gg e).2]).2 0=aH (gg e).1 from rfl,e7];refine ae hJ (bh ?_);simp only [bT];rw [show gC (0,[aa (aH e),aa (sT (aF xF 0 z3) Px),aa (aH (gg e).1),aw []]).2 0=aH e from rfl,e7];refine ae hGC (bh ?_);exact h
  have R:∀r:UO,_->Ev N5 [pw l lb en,aa (aH e)] r:=λr h=>by
   refine bj aJt ?_;rw [e7];refine ae hR (bm (ae hGR (bh ?_)));exact h
  clear hGC hGR hR hJ aX;cases e with
  |mk k p n o f ln lo hi L=>
  have ar:(gg (.mk k p n o f ln lo hi L)).2 =(xs.length:Int):=ar k rfl;have I0:(k==2||k==3||k==12)=false->vO l.length (.mk k p n o f ln lo hi L):=λh=> .mk _ (λh'=>by rw [show(CE.mk k p n o f ln lo hi L).kind =k from rfl,h]at h';cases h') eT hf;have I1:ib o l.length=true->vO l.length (.mk k p n o f ln lo hi L):=λh=> .mk _ (λ_=>h) eT hf;cases h1:k==1 with
  |true=>
   refine⟨⟨false,n==0,[],n,n⟩,bif decide (-2147483648<=n)then decide (n<=2147483647)else false,C _ ?_,λ_=>⟨⟨false,n==0,[],n,n⟩,R _ ?_,z8 rfl,I0 (aex)⟩⟩
   ·exact aV h1 (ax (c:=decide (-2147483648<=n)) (λh=>ab (iW)) λh=>ab (iW))
   ·exact aV h1 (ax (c:=decide (-2147483648<=n)) (λh=>ab (iW)) λh=>ab (iW))
  |false=>
  cases h2:k==2 with
  |true=>
   have DT:=VD (l:=l) (en:=en) (o:=o) (off:=f);have IF:=arP (l:=l) (o:=o) (off:=f);cases hs:lV l o f with
   |false=>
    rw [hs]at DT IF;exact⟨uI,false,C _ (au h1 (aV h2 (ae DT (bh aD)))),λh=>aM⟩
   |true=>
    rw [hs]at DT IF;have hi:ib o l.length=true:=by
     unfold lV at hs;exact Po
    have hm:=Ct hi;refine⟨⟨(cW l o).ptr,false,(cW l o).set,(cW l o).lo,(cW l o).hi⟩,true,C _ (au h1 (aV h2 (ae DT (bm (az (apY) (ab ?_)))))),λ_=>⟨⟨(cW l o).ptr,false,(cW l o).set,(cW l o).lo,(cW l o).hi⟩,R _ (au h1 (aV h2 (ae IF (bm (az (apY) (ab ?_)))))),⟨⟨ol.nd _ hm,ol.mX _ hm⟩,⟨ol.nd _ hm,ol.mX _ hm⟩,rel_refl _⟩,I1 hi⟩⟩
    ·exact ash
    ·exact ash
  |false=>
  cases h3:k==3 with
  |true=>
   have ek:=eq_of_beq h3;subst ek;obtain⟨x,y,rfl,rfl,vr⟩:=OJ FY (Vy);have DT:=au7 (l:=l) (en:=en) (o:=o) (off:=f) (n:=ln);have IF:=asV (l:=l) (o:=o) (off:=f) (n:=ln);cases hs:vZ l o f ln with
   |false=>
    rw [hs]at DT IF;exact⟨uI,false,C _ (au h1 (au h2 (aV h3 (ae DT (bh aD))))),λh=>aM⟩
   |true=>
    rw [hs]at DT IF;have hi:ib o l.length=true:=by
     unfold vZ at hs;exact Po
    have eJ:ib o (cg l).length =true:=OU;have hp:=vr.rel.ptr;refine⟨bif x.ptr then uI else⟨false,false,[],(cW l o).lo,(cW l o).hi⟩,!x.ptr,C _ (au h1 (au h2 (aV h3 (ae DT (bm (az rfl (az rfl (ax (c:=x.ptr) (λh=>ab (iW)) λh=>az eJ (az eJ (ab ?_)))))))))),λh=>⟨⟨false,false,[],(cW l o).lo,(cW l o).hi⟩,R _ (au h1 (au h2 (aV h3 (ae IF (bm (az eJ (az eJ (az rfl (az rfl (ab ?_)))))))))),?_⟩⟩
    ·rw [h];show(0,[aa [aT,aT,aw [],iI (gI (gA (cg l) o.toNat) 1),iI (gI (gA (cg l) o.toNat) 2)],c5])=_;rw [qX hi];rfl
    ·show(0,[aa [aT,aT,aw [],iI (gI (gA (cg l) o.toNat) 1),iI (gI (gA (cg l) o.toNat) 2)],av (!y.ptr)])=_;rw [qX hi,hp];rfl
    ·have:x.ptr=false:=by simpa using h
     rw [this];exact⟨z8 rfl,I1 hi⟩
  |false=>
  cases h4:k==4 with
  |true=>
   have ek:=eq_of_beq h4;subst ek;obtain⟨x,y,rfl,rfl,vr⟩:=OJ FY (Vy);have hp:=vr.rel.ptr;have ht:=vr.rel.om;cases ho:p==18 with
   |true=>exact⟨Bf,om x,C _ (au h1 (au h2 (au h3 (aV h4 (aV ho (ae Qf (az rfl (az rfl (ae (E8 x) aD))))))))),λ_=>⟨Bf,R _ (au h1 (au h2 (au h3 (aV h4 (aV ho (az rfl (az rfl (ae (E7 y) (ab (by rw [ht];rfl)))))))))),z8 rfl,I0 rfl⟩⟩
   |false=>
   cases hq:p==16 with
   |true=>exact⟨Ez,!x.ptr,C _ (au h1 (au h2 (au h3 (aV h4 (au ho (ae Ws (aV hq (az rfl (az rfl aD))))))))),λ_=>⟨Ez,R _ (au h1 (au h2 (au h3 (aV h4 (au ho (aV hq (az rfl (az rfl (ab (EC)))))))))),z8 rfl,I0 rfl⟩⟩
   |false=>
   cases AJ:p==17 with
   |true=>exact⟨Ez,!x.ptr,C _ (au h1 (au h2 (au h3 (aV h4 (au ho (ae Ws (au hq (aV AJ (az rfl (az rfl aD)))))))))),λ_=>⟨Ez,R _ (au h1 (au h2 (au h3 (aV h4 (au ho (au hq (aV AJ (az rfl (az rfl (ab (EC))))))))))),z8 rfl,I0 rfl⟩⟩
   |false=>exact⟨Ez,false,C _ (au h1 (au h2 (au h3 (aV h4 (au ho (ae Ws (au hq (au AJ aD)))))))),λ_=>⟨Ez,R _ (au h1 (au h2 (au h3 (aV h4 (au ho (au hq (au AJ aD))))))),z8 rfl,I0 rfl⟩⟩
  |false=>
  cases h5:k==5 with
  |true=>
   have ek:=eq_of_beq h5;subst ek;obtain⟨x,y,x1,y1,rfl,rfl,vr,aha⟩:=UT FY (ao3);have hb:=aLE (p:=p) vr.rel aha.rel;exact⟨(pn p x x1).1,(pn p x x1).2,C _ (au h1 (au h2 (au h3 (au h4 (aV h5 (az rfl (az rfl (az rfl (az rfl (ae (aZY p x x1) aD)))))))))),λ_=>⟨(pn p x x1).1,R _ (au h1 (au h2 (au h3 (au h4 (aV h5 (az rfl (az rfl (az rfl (az rfl (ae (aZX p y y1) (ab (by rw [hb];rfl)))))))))))),aLF,I0 rfl⟩⟩
  |false=>
  cases h6:(bif k==6 then true else k==7)with
  |true=>
   have hk:(gg (.mk k p n o f ln lo hi L)).2 =2:=ar4;obtain⟨x,y,x1,y1,rfl,rfl,vr,aha⟩:=UT FY (by rw [hk]at ar;omega);have I6:(k==2||k==3||k==12)=false:=ar4;have yG:=aoB k;have AS:=aoA k;rw [h6]at yG AS;have QM:=vr.rel.om;have ht2:=aha.rel.om;refine⟨Bf,C9 x x1,C _ (au h1 (au h2 (au h3 (au h4 (au h5 (ae yG (bh (ae Qf (az rfl (az rfl (ae (E8 x) (ax (c:=om x) (λh=>az rfl (az rfl (ae (E8 x1) (ab ?_)))) λh=>ab ?_)))))))))))),λ_=>⟨Bf,R _ (au h1 (au h2 (au h3 (au h4 (au h5 (ae AS (bh (az rfl (az rfl (ae (E7 y) (ax (c:=om y) (λh=>az rfl (az rfl (ae (E7 y1) (ab ?_)))) λh=>ab ?_))))))))))),z8 rfl,I0 I6⟩⟩
   ·unfold C9;rw [h];rfl
   ·unfold C9;rw [h];rfl
   ·unfold C9;rw [QM,ht2,h];rfl
   ·unfold C9;rw [QM,h];rfl
  |false=>
  have yG:=aoB k;have AS:=aoA k;rw [h6]at yG AS;cases h8:k==8 with
  |true=>
   have ek:=eq_of_beq h8;subst ek;obtain⟨x,y,x1,y1,x2,y2,rfl,rfl,DL,wv,LU⟩:=aKq FY (by have:(3:Int)=(xs.length:Int):=ar;omega);obtain⟨s,e1,e2⟩:=hE ol.len wv.l LU.l;obtain⟨t,e3,e4⟩:=aO3 ol.len wv.r LU.r;have hb:=aLn wv.rel LU.rel;have ht:=DL.rel.om;refine⟨s,tT x1 x2&&om x,C _ (au h1 (au h2 (au h3 (au h4 (au h5 (ae yG (bm (aV h8 (az rfl (az rfl (az rfl (az rfl (ae e1 (ax (c:=tT x1 x2) (λh=>az rfl (az rfl (ae (E8 x) (ab ?_)))) λh=>ab ?_)))))))))))))),λh=>⟨t,R _ (au h1 (au h2 (au h3 (au h4 (au h5 (ae AS (bm (aV h8 (az rfl (az rfl (az rfl (az rfl (ae e3 (ax (c:=tT y1 y2) (λh=>az rfl (az rfl (ae (E7 y) (ab ?_)))) λh=>ab ?_)))))))))))))),?_⟩⟩
   ·exact iW
   ·exact iW
   ·rw [hb,ht,h];rfl
   ·rw [hb,h];rfl
   ·rw [bA]at h;obtain⟨i1,i2⟩:=e2 h.1;obtain⟨i3,i4⟩:=e4 (by rw [<-hb];exact h.1);exact⟨⟨i1,i3,Dy.rel wv.rel LU.rel i2 i4⟩,I0 rfl⟩
  |false=>
  cases h9:k==9 with
  |true=>
   have ek:=eq_of_beq h9;subst ek;obtain⟨x,y,rfl,rfl,vr⟩:=OJ FY (Vy);have hp:=vr.rel.ptr;refine⟨⟨false,false,[],lo,hi⟩,bif decide (-2147483648<=lo)then bif decide (hi<=2147483647)then bif decide (lo<=hi)then !x.ptr else false else false else false,C _ (au h1 (au h2 (au h3 (au h4 (au h5 (ae yG (bm (au h8 (aV h9 (ax (c:=decide (-2147483648<=lo)) (λa1=>ax (c:=decide (hi<=2147483647)) (λa2=>ax (c:=decide (lo<=hi)) (λa3=>az rfl (az rfl (ab ?_))) λa3=>ab ?_) λa2=>ab ?_) λa1=>ab ?_)))))))))),λ_=>⟨⟨false,false,[],lo,hi⟩,R _ (au h1 (au h2 (au h3 (au h4 (au h5 (ae AS (bm (au h8 (aV h9 (ax (c:=decide (-2147483648<=lo)) (λa1=>ax (c:=decide (hi<=2147483647)) (λa2=>ax (c:=decide (lo<=hi)) (λa3=>az rfl (az rfl (ab ?_))) λa3=>ab ?_) λa2=>ab ?_) λa1=>ab ?_)))))))))),z8 rfl,I0 rfl⟩⟩
   ·rw [a1,a2,a3];rfl
   ·rw [a1,a2,a3];rfl
   ·rw [a1,a2];rfl
   ·rw [a1];rfl
   ·rw [a1,a2,a3,hp];rfl
   ·rw [a1,a2,a3];rfl
   ·rw [a1,a2];rfl
   ·rw [a1];rfl
  |false=>
  cases mK:k==10 with
  |true=>
   have ek:=eq_of_beq mK;subst ek;obtain⟨x,y,x1,y1,rfl,rfl,DL,wv⟩:=UT FY (ao3);exact⟨⟨x1.ptr,false,x1.set,x1.lo,x1.hi⟩,true,C _ (au h1 (au h2 (au h3 (au h4 (au h5 (ae yG (bm (au h8 (au h9 (aV mK (az rfl (az rfl (az rfl (az rfl aD)))))))))))))),λ_=>⟨⟨y1.ptr,false,y1.set,y1.lo,y1.hi⟩,R _ (au h1 (au h2 (au h3 (au h4 (au h5 (ae AS (bm (au h8 (au h9 (aV mK (az rfl (az rfl aD)))))))))))),⟨⟨wv.l.nd,wv.l.mX⟩,⟨wv.r.nd,wv.r.mX⟩,⟨wv.rel.ptr,rfl,wv.rel.lo,wv.rel.hi,wv.rel.set⟩⟩,I0 rfl⟩⟩
  |false=>
  cases qL:k==11 with
  |true=>
   have e1:∀ls:List SO,decide (ah.ln (ls.map bJ)<=n)=decide ((ls.length:Int)<=n):=λls=>by rw [c9]
   cases a1:decide (n<0)with
   |true=>exact⟨uI,false,C _ (au h1 (au h2 (au h3 (au h4 (au h5 (ae yG (bm (au h8 (au h9 (au mK (aV qL (aV a1 aD)))))))))))),λh=>aM⟩
   |false=>
   cases a2:decide ((la.length:Int)<=n)with
   |true=>exact⟨uI,false,C _ (au h1 (au h2 (au h3 (au h4 (au h5 (ae yG (bm (au h8 (au h9 (au mK (aV qL (au a1 (aV (by show decide (ah.ln (la.map bJ)<=n)=true;rw [e1];exact a2) aD))))))))))))),λh=>aM⟩
   |false=>
    simp only [ui,Int.not_lt,Int.not_le]at a1 a2;obtain⟨j,rfl⟩:∃j:Nat,n=(j:Int):=⟨n.toNat,by omega⟩;have hj:la.length- 1- j<la.length:=by omega
    have sH:la.length- 1- j<lb.length:=by omega
    have hw:aU (aU (ah.ln (la.map bJ)- 1)-(j:Int))=((la.length- 1- j:Nat):Int):=by
     rw [c9,mi (n:=(la.length:Int)- 1) (by omega) (by omega),mi (by omega) (by omega)];omega
    have QI:aU (aU (ah.ln (lb.map bJ)- 1)-(j:Int))=((la.length- 1- j:Nat):Int):=by
     rw [c9,<-hlb,mi (n:=(la.length:Int)- 1) (by omega) (by omega),mi (by omega) (by omega)];omega
    have vH:=F8.at hj sH;refine⟨⟨la[la.length- 1- j].ptr,false,la[la.length- 1- j].set,la[la.length- 1- j].lo,la[la.length- 1- j].hi⟩,true,C _ (au h1 (au h2 (au h3 (au h4 (au h5 (ae yG (bm (au h8 (au h9 (au mK (aV qL (au (c:=decide ((j:Int)<0)) (by simp) (au (c:=decide (ah.ln (la.map bJ)<=(j:Int))) (by rw [e1];simp;omega) (az (c:=ib (aU (aU (ah.ln (la.map bJ)- 1)-(j:Int))) (la.map bJ).length) (by rw [hw];exact cw hj) (ab ?_))))))))))))))),λ_=>⟨⟨lb[la.length- 1- j].ptr,false,lb[la.length- 1- j].set,lb[la.length- 1- j].lo,lb[la.length- 1- j].hi⟩,R _ (au h1 (au h2 (au h3 (au h4 (au h5 (ae AS (bm (au h8 (au h9 (au mK (aV qL (au (c:=decide ((j:Int)<0)) (by simp) (au (c:=decide (ah.ln (lb.map bJ)<=(j:Int))) (by rw [e1];simp;omega) (az (c:=ib (aU (aU (ah.ln (lb.map bJ)- 1)-(j:Int))) (lb.map bJ).length) (by rw [QI];exact cw sH) (ab ?_))))))))))))))),⟨⟨vH.l.nd,vH.l.mX⟩,⟨vH.r.nd,vH.r.mX⟩,⟨vH.rel.ptr,rfl,vH.rel.lo,vH.rel.hi,vH.rel.set⟩⟩,I0 (by rw [eq_of_beq qL];rfl)⟩⟩
    ·show(0,[aa (sT (aF nc 0 (gA (la.map bJ) (aU (aU (ah.ln (la.map bJ)- 1)-(j:Int))).toNat)) [(1,aT)]),c5])=_;rw [hw,gf hj];rfl
    ·show(0,[aa (sT (aF nc 0 (gA (lb.map bJ) (aU (aU (ah.ln (lb.map bJ)- 1)-(j:Int))).toNat)) [(1,aT)]),c5])=_;rw [QI,gf sH];rfl
  |false=>
  cases IL:k==12 with
  |true=>
   have hb:E (λN _=>bO (FU CX EE N Gk [sD l en,iI o,iI 0]) λ_ zG=>bif gB zG 0 then a8 (ib o ((cg l).length))<|bif !(gB (gA (cg l) o.toNat) 3)then a8 (ib o ((cg l).length))<|some (0,[aa [c5,aT,aw [[iI o]],iI 0,iI 0],av (gI (gA (cg l) o.toNat) 0==1)])else some (0,[aa [c5,aT,aw [[iI o]],iI 0,iI 0],aT])else some (0,[aa [c5,aT,aw [[iI o]],iI 0,iI 0],aT]))
    (0,[aa (bJ ⟨true,false,[o],0,0⟩),av (ib o l.length&& !(cW l o).ptr &&((cW l o).size ==1))]):=by
    have hk:=VD (l:=l) (en:=en) (o:=o) (off:=0);refine ae hk (ax (c:=lV l o 0) (λhs=> ?_) λhs=>ab ?_)
    ·have hi:ib o l.length=true:=by
      unfold lV at hs;exact Po
     have eJ:ib o (cg l).length =true:=OU;exact ar2
    ·have:(ib o l.length&& !(cW l o).ptr &&((cW l o).size ==1))=false:=by
      cases hi:ib o l.length with
      |false=>rfl
      |true=>
       cases hz:(cW l o).size ==1 with
       |false=>simp
       |true=>
        have hz:=eq_of_beq hz;have hh:=mR.1 hi;have ha:decide (0<=o)=true:=by simpa using hh.1
        have hb:decide (o<(l.length:Int))=true:=by simpa using hh.2
        unfold lV at hs;rw [ha,hb,hz]at hs;cases hs
     exact iV
   have hr:bY ZE [pw l lb en,aa (aH (.mk k p n o f ln lo hi L))] (0,[av (ib o l.length&& !(cW l o).ptr &&((cW l o).size ==1)),pw l lb en,aa (aH (.mk k p n o f ln lo hi L))]):=by
    refine bX aAg ?_;refine ax (c:=decide (0<=o)) (λh1=> ?_) λh1=>ab ?_
    ·refine ax (c:=decide (o<ah.ln (cg l))) (λh2=> ?_) λh2=>ab ?_
     ·rw [c9]at h2;have hi:=zd h1 h2;have eJ:ib o (cg l).length =true:=OU;show E (λN _=>a8 (ib o (cg l).length) (bif !(gB (gA (cg l) o.toNat) 3)then a8 (ib o (cg l).length) (some (0,[av (gI (gA (cg l) o.toNat) 0==1),_,_]))else _)) _;exact ar2
     ·rw [c9]at h2;have:ib o l.length=false:=by
       cases hi:ib o l.length with
       |false=>rfl
       |true=>have:=(mR.1 hi).2;simp at h2;omega
      exact iV
    ·have:ib o l.length=false:=by
      cases hi:ib o l.length with
      |false=>rfl
      |true=>have:=(mR.1 hi).1;simp at h1;omega
     exact iV
   refine⟨⟨true,false,[o],0,0⟩,ib o l.length&& !(cW l o).ptr &&((cW l o).size ==1),C _ (au h1 (au h2 (au h3 (au h4 (au h5 (ae yG (bm (au h8 (au h9 (au mK (au qL (aV IL hb)))))))))))),λh=>⟨⟨true,false,[o],0,0⟩,R _ (au h1 (au h2 (au h3 (au h4 (au h5 (ae AS (bm (au h8 (au h9 (au mK (au qL (aV IL (ae hr aD))))))))))))),?_⟩⟩;rw [bA,bA]at h;have hv:SO.Inv l.length ⟨true,false,[o],0,0⟩:=⟨by simp,λx hx=>by simp at hx;subst hx;exact h.1.1⟩;exact⟨⟨hv,hv,rel_refl _⟩,I1 h.1.1⟩
  |false=>
  cases Q8:k==13 with
  |true=>
   have ek:=eq_of_beq Q8;subst ek;obtain⟨x,y,rfl,rfl,vr⟩:=OJ FY (Vy);have hq:=aKI (l:=l) vr.rel;have p1:=aX4 (l:=l) (en:=en) (s:=x) (vr.l.le ol.len) vr.l.mX;have p2:=aX3 (l:=l) (s:=y) (vr.r.le ol.len) vr.r.mX;rw [<-hq]at p2;exact⟨(uA l x).1,(uA l x).2,C _ (au h1 (au h2 (au h3 (au h4 (au h5 (ae yG (bm (au h8 (au h9 (au mK (au qL (au IL (aV Q8 (az rfl (az rfl (ae p1 aD)))))))))))))))),λ_=>⟨(uA l x).1,R _ (au h1 (au h2 (au h3 (au h4 (au h5 (ae AS (bm (au h8 (au h9 (au mK (au qL (au IL (aV Q8 (az rfl (az rfl (ae p2 aD)))))))))))))))),z8 aKH,I0 rfl⟩⟩
  |false=>
   exact⟨⟨false,false,[],0,32⟩,bif decide (0<=n)then decide (n<en)else false,C _ (au h1 (au h2 (au h3 (au h4 (au h5 (ae yG (bm (au h8 (au h9 (au mK (au qL (au IL (au Q8 (ax (c:=decide (0<=n)) (λh=>ab (iW)) λh=>ab (iW))))))))))))))),λ_=>⟨⟨false,false,[],0,32⟩,R _ (au h1 (au h2 (au h3 (au h4 (au h5 (ae AS (bm (au h8 (au h9 (au mK (au qL (au IL (au Q8 (ax (c:=decide (0<=n)) (λh=>ab (iW)) λh=>ab (iW))))))))))))))),z8 rfl,I0 (by rw [h2,h3,IL];rfl)⟩⟩
end
end Go.Proofs.B.C
namespace Go.ah
def KR{p:Prop}(h:p:=by have:=hw.kX;simp only [mx];omega):p:=h
def KA{p:Prop}(h:p:=by rw [dW];exact ho):p:=h
def aeY{p:Prop}(h:p:=by
 rw [show decide (0<=(i:Int))=true by simp]at this;exact this):p:=h
def aeQ{p:Prop}(h:p:=by refine ae hi.diag (bm (ab ?_));erw [hc];rfl):p:=h
def aeP{p:Prop}(h:p:=by refine ae hi.diag (bh (ab ?_));erw [hc];rfl):p:=h
def aeO{p:Prop}(h:p:=by have:=hw.rG;simp only [mx];omega):p:=h
def EB{p:Prop}(h:p:=by rw [hc];rfl):p:=h
def qn{p:Prop}(h:p:=by erw [hc];rfl):p:=h
def apq{p:Prop}(h:p:=by have:=mR.1 ho;rw [dW];simp;omega):p:=h
end Go.ah
namespace Go.ah
def iS:=@Bool.not_eq_false'
def zY:=@List.any_eq_false
def ac2:=@Classical.axiomOfChoice
end Go.ah
namespace Go.Proofs.B.C
open Go Go.ah
section
variable{i o:Int}
theorem aOF{e:CE}(h:LA e=true):wG e<=64:=by unfold LA at h;simp at h;omega
theorem ofE(hE:pD){l:List OB}(ol:OL l)(en:Int)(e:CE)(aX:e.Ok):∃s b,
 Ev SB [sD l en,aa (aH e)] (0,[aa (bJ s),av b])/\(b=true->∃t,Ev Es [pw l [] en,aa (aH e)] (0,[aa (bJ t),c5])/\RI l.length s t/\vO l.length e):=by
 obtain⟨n',hw,_⟩:=aM0 e aX 0 256 (by omega) (by omega) (by omega) (by omega);have e1:(decide ((p9 e:Int)<=256)&&decide ((0:Int)+wG e<=64))=LA e:=by unfold LA;simp
 rw [e1]at hw;cases h:LA e with
 |false=>
  rw [h]at hw;refine⟨uI,false,bj akr ?_,λh=>aM⟩;rw [e7];exact ae hw (bh aD)
 |true=>
  rw [h]at hw;obtain⟨s,b,h1,h3⟩:=aOe hE ol en e aX [] [] .nil (by have:=aOF h;simp;omega);refine⟨s,b,bj akr ?_,λhb=> ?_⟩
  ·rw [e7];exact ae hw (bm (ae h1 aD))
  ·subst hb;obtain⟨t,h2,h3⟩:=h3 rfl;unfold LA at h;simp only [bA,iT]at h;refine⟨t,bj aLp ?_,h3⟩;rw [e7];exact ae (aOk e aX 256 64 (by omega) (by omega) h.1 h.2) (au (c:=decide ((p9 e:Int)<0)) (by simp) (ae h2 aD))
structure WH where
 task:Int
 marks:cj
 oy:cj
 rG:cj
 kX:cj
 loops:cj
 tO:Bool
 sr:Bool
 Et:Bool
 sl:Int
 deep:Int
structure WH.Ok(w:WH):Prop where
 marks:w.marks.length<=1000
 oy:w.oy.length<=1000
 rG:w.rG.length<=1000
 kX:w.kX.length<=1000
 loops:w.loops.length<=1000
structure RO where
 nK:Int
 task:Int
 entry:Int
variable{l:List RO}
def rj(r:RO):aq:=[iI r.nK,iI r.task,iI r.entry]
def qE:RO:=⟨-1,-1,-1⟩
abbrev aP(l:List RO):aE:=l.map rj
def ij(l:List RO)(i:Int):RO:=l.getD i.toNat qE
theorem Ps(h:ib i l.length=true):gA (aP l) i.toNat=rj (ij l i):=by
 have:=mR.1 h;have h2:i.toNat<l.length:=by omega
 rw [wR h2];simp [ij,h2]
theorem aKG(h:ib i l.length=true):ij l i∈l:=by
 have:=mR.1 h;have h2:i.toNat<l.length:=by omega
 simp only [ij,pA,c8 h2,qm];exact cY h2
def RO.Ok(r:RO):Prop:=r=qE∨0<=r.nK∨0<=r.task
abbrev aZ(j:Nat)(w:WH):aq:=[.ptr j 0 0,iI w.task,aw (ints w.marks),aw (ints w.oy),aw (ints w.rG),aw (ints w.kX),aw (ints w.loops),av w.tO,av w.sr,av w.Et,iI w.sl,iI w.deep]
abbrev ep(i j:Nat)(p:PG)(left:Int):aq:=[dg (cg p.bq),iI (-1),dg (cg p.bq),iI p.gv,ng (p.tasks.map cA),uf (p.bW.map il),.ak i,iI left,.mp j]
abbrev dY(p:PG)(ts:List TK)(ro:List RO)(w:WH):AV:= aa [dg (cg p.bq),iI p.gv,ng (ts.map cA),uf (p.bW.map il),sN (aP ro),iI w.task,aw (ints w.marks),aw (ints w.oy),aw (ints w.rG),aw (ints w.kX),aw (ints w.loops),av w.tO,av w.sr,av w.Et,iI w.sl,iI w.deep]
def tk0:TK:=⟨0,[],.mk ⟨0,0,0,0,0,0,false,false,false,false,false,0,[],[],[],[],[]⟩ [] [] [] [],0⟩
def dH(l:List TK)(i:Int):TK:=l.getD i.toNat tk0
structure aP2(ps ts:List TK):Prop where
 len:ts.length=ps.length
 aJ:∀i,(dH ts i).aJ =(dH ps i).aJ
structure CT(p:PG)(ts:List TK)(ro:List RO):Prop where
 same:aP2 p.tasks ts
 ok:p.Ok
 ol:OL p.bq
 len:ro.length=p.bq.length
 ro:∀r∈ro,r.Ok
 gv:p.gv<=64
 aOP:p.tasks.length<=32
 ent:∀t∈p.tasks,∀e∈t.aJ,(∀x∈e.ins,ib x p.bq.length=true)/\(∀x∈e.outs,ib x p.bq.length=true)/\e.ins.length<=8/\e.outs.length<=8
section
variable {p:PG} {ts:List TK} {ro:List RO} (ct:CT p ts ro) {w:WH} (hw:w.Ok) {cn:aE} (hc:bz (aJ cn)=cn) {lf:Int}
def oa(ro:List RO)(w:WH)(o:Int):Bool:=
 bif decide (0<=(ij ro o).nK)then ei w.kX (ij ro o).nK else bif decide ((ij ro o).task <0)then true else bif (ij ro o).task ==w.task then ei w.rG (ij ro o).entry else false
include hw hc in
theorem PZ(ho:ib o ro.length=true):Ev Gn [aa (aZ 0 w),iI o,aa (ep 1 2 p lf),ay (aP ro),.aj 0 cn] (0,[av (oa ro w o),aa (ep 1 2 p lf),ay (aP ro),.aj 0 cn]):=by
 have jJ:ib o (aP ro).length =true:=KA;refine bj aEu (az jJ (az (apq) ?_));rw [hc,Ps ho];refine ax (c:=decide (0<=(ij ro o).nK)) (λh1=>ae (yP (ij ro o).nK (KR)) (ab ?_)) λh1=>ax (c:=decide ((ij ro o).task <0)) (λh2=>ab ?_) λh2=>ax (c:=(ij ro o).task ==w.task) (λh3=>ae (yP (ij ro o).entry (aeO)) (ab ?_)) λh3=>ab ?_
 ·simp only [oa,h1,bT];rfl
 ·simp only [oa,h1,h2,bT,bM];rfl
 ·simp only [oa,h1,h2,h3,bT,bM];rfl
 ·simp only [oa,h1,h2,h3,bM];rfl
include hw in
theorem Xc(ho:ib o ro.length=true):Ev JJ [dY p ts ro w,iI o] (0,[av (oa ro w o)]):=by
 have jJ:ib o (aP ro).length =true:=KA;refine bj aHw (az jJ ?_);erw [Ps ho];refine ax (c:=decide (0<=(ij ro o).nK)) (λh1=>ae (AD (ij ro o).nK (KR)) (ab ?_)) λh1=>ax (c:=decide ((ij ro o).task <0)) (λh2=>ab ?_) λh2=>ax (c:=(ij ro o).task ==w.task) (λh3=>ae (AD (ij ro o).entry (aeO)) (ab ?_)) λh3=>ab ?_
 ·simp only [oa,h1,bT];rfl
 ·simp only [oa,h1,h2,bT,bM]
 ·simp only [oa,h1,h2,h3,bT,bM];rfl
 ·simp only [oa,h1,h2,h3,bM]
def zv(ro:List RO)(w:WH)(e:CE):Bool:=
 bif e.kind==2 then oa ro w e.O else bif e.kind==3 then oa ro w e.O else bif e.kind==12 then((ij ro e.O).nK == -1)&&(((ij ro e.O).task == -1)&&(((ij ro e.O).entry == -1)&&true))else true
include ct hw hc in
theorem aOa:∀e:CE,e.Ok->vO p.bq.length e->∃b,
 Ev Js [aa (aZ 0 w),aa (aH e),aa (ep 1 2 p lf),ay (aP ro),.aj 0 cn] (0,[av b,aa (ep 1 2 p lf),ay (aP ro),.aj 0 cn])/\(b=true->Ev xv [dY p ts ro w,aa (aH e)] (0,[c5])):=by
 refine CE.ind λe ih aX eT=> ?_;have hr:(e.kind==2||e.kind==3||e.kind==12)=true->ib e.O ro.length=true:=λh=>by
  rw [ct.len];cases eT with|mk _ h1 _=>exact h1 h
 have tP:∀y∈e.L,vO p.bq.length y:=by cases eT with|mk _ _ h1 _=>exact h1
 have hJ:bY aad [aa (ep 1 2 p lf),ay (aP ro),.aj 0 cn,aa (aZ 0 w),aa (aH e)]
  (bif zv ro w e then(0,[aa (ep 1 2 p lf),ay (aP ro),.aj 0 cn,aa (aZ 0 w),aa (aH e)])else(1,[aT,aa (ep 1 2 p lf),ay (aP ro),.aj 0 cn,aa (aZ 0 w),aa (aH e)])):=by
  refine bX aBH ?_;rw [hc,yk,Lp,e7];refine ax (λh1=> ?_) λh1=>ax (λh2=> ?_) λh2=>ax (λh3=> ?_) λh3=>ab ?_
  ·refine ae (PZ hw hc (hr (by rw [h1];rfl))) ?_;erw [hc];refine ax (c:= !oa ro w e.O) (λh=>ab ?_) λh=>ab ?_
   ·simp only [iy]at h;simp only [zv,h1,h,bT,bM];rfl
   ·simp only [iS]at h;simp only [zv,h1,h,bT];rfl
  ·refine ae (PZ hw hc (hr (by rw [h2];simp))) ?_;erw [hc];refine ax (c:= !oa ro w e.O) (λh=>ab ?_) λh=>ab ?_
   ·simp only [iy]at h;simp only [zv,h1,h2,h,bT,bM];rfl
   ·simp only [iS]at h;simp only [zv,h1,h2,h,bT,bM];rfl
  ·have ho:=hr (by rw [h3];simp);have jJ:ib e.O (aP ro).length =true:=KA;refine az jJ (az (apq) ?_);rw [Ps ho];refine ax (c:= !(((ij ro e.O).nK == -1)&&(((ij ro e.O).task == -1)&&(((ij ro e.O).entry == -1)&&true)))) (λh=>ab ?_) λh=>ab ?_
   ·simp only [iy]at h;simp only [zv,h1,h2,h3,h,bT,bM];rfl
   ·simp only [iS]at h;simp only [zv,h1,h2,h3,h,bT,bM];rfl
  ·simp only [zv,h1,h2,h3,bT,bM];rfl
 have U:∀r,(zv ro w e=false->(0,[aT])=r)->(zv ro w e=true->E (λN _=>bO (MY (FU CX EE N) N N [iI 0,dY p ts ro w,aa (aH e)]) λq6 o6=>bif Nat.beq q6 0 then some (0,[av (gB o6 0)])else some (0,[c5])) r)->Ev xv [dY p ts ro w,aa (aH e)] r:=by
  intro r hn hy;clear hJ ih aX eT tP;obtain⟨k,op,n,o,f,ln,lo,hi,L⟩:=e;have hu:zv ro w (.mk k op n o f ln lo hi L)=bif k==2 then oa ro w o else bif k==3 then oa ro w o else bif k==12 then((ij ro o).nK == -1)&&(((ij ro o).task == -1)&&(((ij ro o).entry == -1)&&true))else true:=rfl;refine bj aGF (E2 aEh (xU (c:=k==2) (λh1=> ?_) λh1=>xU (c:=k==3) (λh2=> ?_) λh2=>rH (bh (E2 aao (xU (c:=k==12) (λh3=> ?_) λh3=>rH (bh (hy ?_)))))))
  ·refine anL (Xc hw (hr (by rw [show(CE.mk k op n o f ln lo hi L).kind =k from rfl,h1];rfl))) (xU (c:= !oa ro w o) (λh=>rH (bm (ab (hn ?_)))) λh=>rH (bh (E2 aao (VM (c:=k==12) (aex) (rH (bh (hy ?_)))))))
   ·simp only [iy]at h;rw [hu,h1,h];rfl
   ·simp only [iS]at h;rw [hu,h1,h];rfl
  ·refine anL (Xc hw (hr (by rw [show(CE.mk k op n o f ln lo hi L).kind =k from rfl,h2];simp))) (xU (c:= !oa ro w o) (λh=>rH (bm (ab (hn ?_)))) λh=>rH (bh (E2 aao (VM (c:=k==12) (by rw [eq_of_beq h2];rfl) (rH (bh (hy ?_)))))))
   ·simp only [iy]at h;rw [hu,h1,h2,h];rfl
   ·simp only [iS]at h;rw [hu,h1,h2,h];rfl
  ·have ho:ib o ro.length=true:=hr (by rw [show(CE.mk k op n o f ln lo hi L).kind =k from rfl,h3];simp);have jJ:ib o (aP ro).length =true:=KA;refine Kl jJ ?_;erw [Ps ho];have nO:=ct.ro _ (aKG ho);refine xU (c:=decide (0<=(ij ro o).nK)) (λh=>rH (bm (ab (hn ?_)))) λh=>Kl jJ (xU (c:=decide (0<=(ij ro o).task)) (λh'=>rH (bm (ab (hn ?_)))) λh'=>rH (bh (hy ?_)))
   ·have:((ij ro o).nK == -1)=false:=by simp at h⊢;omega
    rw [hu,h1,h2,h3,this];rfl
   ·have:((ij ro o).task == -1)=false:=by simp at h'⊢;omega
    rw [hu,h1,h2,h3,this];simp
   ·rcases nO with nO|nO|nO
    ·rw [hu,h1,h2,h3,nO];rfl
    ·simp at h;omega
    ·simp at h';omega
  ·rw [hu,h1,h2,h3];rfl
 cases hu:zv ro w e with
 |false=>
  rw [hu]at hJ;refine⟨false,bj ajG ?_,λh=>aM⟩;rw [hc,e7];refine ae hJ (bm (ab ?_));exact qn
 |true=>
  rw [hu]at hJ;have afR:∀y,∃b,y∈e.L->(Ev Js [aa (aZ 0 w),aa (aH y),aa (ep 1 2 p lf),ay (aP ro),.aj 0 cn] (0,[av b,aa (ep 1 2 p lf),ay (aP ro),.aj 0 cn])/\(b=true->Ev xv [dY p ts ro w,aa (aH y)] (0,[c5]))):=λy=>by
   by_cases hy:y∈e.L
   ·obtain⟨b,hb⟩:=ih y hy (aX.jt hy) (tP y hy);exact⟨b,λ_=>hb⟩
   ·exact⟨true,λh=>absurd h hy⟩
  have hf:=ac2 afR;obtain⟨f,hf⟩:=hf;have k1:=scan (l:=e.L) (p:=λy=> !f y) (hit:=λi=>(0,[iI (i:Int),aa (aZ 1 w),aa (ep 2 3 p lf),ay (aP ro),.aj 0 cn])) (done:=(1,[aa (aZ 1 w),aa (ep 2 3 p lf),ay (aP ro),.aj 0 cn]))
   (LF:=λi N m=>IZ (FU CX EE N) N m [bR (e.L.map aH),iI (ln (e.L.map aH)),iI (i:Int),aa (aZ 1 w),aa (ep 2 3 p lf),ay (aP ro),.aj 0 cn])
   (aY ahM (au dw (ab (EB))))
   λi hi r h2 h3=>aY ahM<|aV (cZ hi)<|az (cw hi)<|by
    rw [hc,vW hi,ix hi aX.len];have q:Ev Z5 [aa (aH e.L[i]),aa (aZ 1 w),aa (ep 2 3 p lf),ay (aP ro),.aj 0 cn] (0,[av (!f e.L[i]),aa (aZ 1 w),aa (ep 2 3 p lf),ay (aP ro),.aj 0 cn]):=by
     refine bj aBN ?_;rw [hc,e7];refine ae (hf e.L[i] (cY hi)).1 (ab ?_);exact qn
    refine ae q ?_;erw [hc];exact ax (λQ4=>ab (h2 Q4)) h3
  have fin:∀i:Int,bS IZ [bR (e.L.map aH),iI (ln (e.L.map aH)),iI 0,aa (aZ 1 w),aa (ep 2 3 p lf),ay (aP ro),.aj 0 cn] (0,[iI i,aa (aZ 1 w),aa (ep 2 3 p lf),ay (aP ro),.aj 0 cn])∨(i= -1/\bS IZ [bR (e.L.map aH),iI (ln (e.L.map aH)),iI 0,aa (aZ 1 w),aa (ep 2 3 p lf),ay (aP ro),.aj 0 cn] (1,[aa (aZ 1 w),aa (ep 2 3 p lf),ay (aP ro),.aj 0 cn]))->
   Ev Js [aa (aZ 0 w),aa (aH e),aa (ep 1 2 p lf),ay (aP ro),.aj 0 cn] (0,[av (!decide (0<=i)),aa (ep 1 2 p lf),ay (aP ro),.aj 0 cn]):=λi hi=>by
   have a1:Ev YI [bR (e.L.map aH),aa (aZ 1 w),aa (ep 2 3 p lf),ay (aP ro),.aj 0 cn] (0,[iI i,aa (aZ 1 w),aa (ep 2 3 p lf),ay (aP ro),.aj 0 cn]):=by
    refine bj aw8 ?_;rw [hc];rcases hi with hi|⟨rfl,hi⟩
    ·exact aeP
    ·exact aeQ
   have a2:Ev YD [bR (e.L.map aH),aa (aZ 1 w),aa (ep 2 3 p lf),ay (aP ro),.aj 0 cn] (0,[av (decide (0<=i)),aa (aZ 1 w),aa (ep 2 3 p lf),ay (aP ro),.aj 0 cn]):=by
    refine bj awP ?_;rw [hc];refine ae a1 (ab ?_);erw [hc];rfl
   refine bj ajG ?_;rw [hc,e7];refine ae hJ (bh ?_);erw [hc,uD];refine ae a2 (ab ?_);erw [hc];rfl
  rcases k1 with⟨q1,q2⟩|⟨q1,i,_,q2⟩
  ·refine⟨true,fin (-1) (.inr ⟨rfl,q2⟩),λ_=>U _ (λh=>by rw [hu]at h;cases h) λ_=> ?_⟩;have k2:=CQ (l:=e.L) (p:=λy=> !f y) (hit:=(0,[aT,dY p ts ro w,aa (aH e)])) (done:=(1,[dY p ts ro w,aa (aH e)]))
    (LF:=λi N m=>MY (FU CX EE N) N m [iI (i:Int),dY p ts ro w,aa (aH e)])
    (aY ajs (au (aez) (ab (by rw [e7];rfl))))
    λi hi r h2 h3=>aY ajs<|by
     have g:f e.L[i]=true:=by simpa using zY.1 q1 _ (cY hi)
     rw [uD,e7];refine aV (cZ hi)<|az (cw hi) ?_;rw [vW hi,ix hi aX.len];exact ae ((hf e.L[i] (cY hi)).2 g) (bm (h3 (by rw [g];rfl)))
   rw [q1]at k2;exact ae k2.diag (bm aD)
  ·refine⟨false,?_,λh=>aM⟩;have:=fin (i:Int) (.inl q2);exact aeY
end
end
end Go.Proofs.B.C
namespace Go.ah
def Ht{p:Prop}(h:p:=by refine bm (ab ?_);erw [hc];rfl):p:=h
def VB{p:Prop}(h:p:=by
 erw [hc];exact ax (λQ4=>ab (q1 Q4)) q2):p:=h
def apH{p:Prop}(h:p:=by
 rw [hc,e7];refine ae h1 (bm (ab ?_));erw [hc];rfl):p:=h
end Go.ah
namespace Go.Proofs.B.C
open Go Go.ah
section
variable{e:CE}{s t:SO}{l:cj}
theorem Br{α:Type}{l:List α}{p:α->Bool}{LF IX CT:Nat->Nat->Option UO}{st:aq}
 (h:(l.any p=false/\E LF (1,st))∨(l.any p=true/\∃i:Nat,i<l.length/\E LF (0,iI (i:Int)::st)))
 (h1:∀i:Int,E LF (0,iI i::st)->E IX (0,iI i::st)) (h2:E LF (1,st)->E IX (0,iI (-1)::st)) (h3:∀i:Int,E IX (0,iI i::st)->E CT (0,av (decide (0<=i))::st)):
 E CT (0,av (l.any p)::st):=by
 rcases h with⟨h,q⟩|⟨h,i,_,q⟩
 ·rw [h];exact h3 _ (h2 q)
 ·rw [h];have:=h3 _ (h1 _ q);exact aeY
section
variable {p:PG} {ts:List TK} {ro:List RO} (ct:CT p ts ro) {w:WH} (hw:w.Ok) {cn:aE} (hc:bz (aJ cn)=cn) {lf:Int} (hE:pD)
abbrev iQ(p:PG)(ro:List RO)(lf:Int)(cn:aE):aq:=[aa (ep 1 2 p lf),ay (aP ro),.aj 0 cn]
include ct hw hc hE in
theorem Hy(e:CE)(aX:e.Ok):∃s b,
 Ev D9 [aa (aZ 0 w),aa (aH e),aa (ep 1 2 p lf),ay (aP ro),.aj 0 cn] (0,aa (bJ s):: av b::iQ p ro lf cn)/\(b=true->∃t,Ev Es [pw p.bq [] (-1),aa (aH e)] (0,[aa (bJ t),c5])/\Ev xv [dY p ts ro w,aa (aH e)] (0,[c5])/\RI p.bq.length s t/\vO p.bq.length e):=by
 obtain⟨s,b,h1,h3⟩:=ofE hE ct.ol (-1) e aX;cases b with
 |false=>
  refine⟨s,false,bj ajH ?_,λh=>aM⟩;rw [hc,e7];exact ae h1 (bm aD)
 |true=>
  obtain⟨t,h2,ri,eT⟩:=h3 rfl;obtain⟨b,u1,u2⟩:=aOa ct hw hc (lf:=lf) e aX eT;refine⟨s,b,bj ajH ?_,λh=>⟨t,h2,u2 h,ri,eT⟩⟩;rw [hc,e7];refine ae h1 (bh (ae u1 (ab ?_)));exact qn
theorem Wg(h1:Ev Es [pw p.bq [] (-1),aa (aH e)] (0,[aa (bJ t),c5]))(h2:Ev xv [dY p ts ro w,aa (aH e)] (0,[c5])):Ev Gu [dY p ts ro w,aa (aH e)] (0,[aa (bJ t),c5]):=by
 refine bj aGG ?_;rw [e7];exact ae h1 (bh (ae h2 aD))
include ct hw hc hE in
theorem af3(e:CE)(aX:e.Ok):∃b,Ev MJ [aa (aZ 0 w),aa (aH e),aa (ep 1 2 p lf),ay (aP ro),.aj 0 cn] (0,av b::iQ p ro lf cn)/\(b=true->Ev Sd [dY p ts ro w,aa (aH e)] (0,[c5])):=by
 obtain⟨s,b,h1,h3⟩:=Hy ct hw hc (lf:=lf) hE e aX;cases b with
 |false=>
  refine⟨false,bj aiY ?_,λh=>aM⟩;exact apH
 |true=>
  refine⟨om s,bj aiY ?_,λh=>bj aBM ?_⟩
  ·rw [hc,e7];refine ae h1 (bh (ae (E8 s) (ab ?_)));erw [hc];rfl
  ·obtain⟨t,g1,g2,ri,_⟩:=h3 rfl;rw [e7];exact ae (Wg g1 g2) (bh (ae (E7 t) (ab (by rw [<-ri.rel.om,h];rfl))))
include ct hw hc hE in
theorem W9(e:CE)(aX:e.Ok):∃b,Ev AZ [aa (aZ 0 w),aa (aH e),aa (ep 1 2 p lf),ay (aP ro),.aj 0 cn] (0,av b::iQ p ro lf cn)/\(b=true->Ev M9 [dY p ts ro w,aa (aH e)] (0,[c5])/\vO p.bq.length e):=by
 obtain⟨s,b,h1,h3⟩:=Hy ct hw hc (lf:=lf) hE e aX;cases b with
 |false=>
  refine⟨false,bj ajn ?_,λh=>aM⟩;exact apH
 |true=>
  obtain⟨t,g1,g2,ri,eT⟩:=h3 rfl;refine⟨!s.ptr,bj ajn ?_,λh=>⟨bj aEq ?_,eT⟩⟩
  ·rw [hc,e7];refine ae h1 (bh (ab ?_));erw [hc];rfl
  ·rw [e7];exact ae (Wg g1 g2) (bh (ab (by rw [show gB (gC (0,[aa (bJ t),c5]).2 0) 0=s.ptr from ri.rel.ptr.symm,h])))
include ct hc in
theorem aPB(hs:s.Inv p.bq.length)(hl:l.length<=mx)(hr:∀x∈l,ib x p.bq.length=true):
 Ev YJ [aw (ints l),aa (bJ s),aa (aZ 2 w),aa (ep 3 4 p lf),ay (aP ro),.aj 0 cn] (0,[av (l.any λo=> !re s (cW p.bq o)),aa (bJ s),aa (aZ 2 w),aa (ep 3 4 p lf),ay (aP ro),.aj 0 cn]):=by
 have DO:=hs.le ct.ol.len;refine Br (st:=[aa (bJ s),aa (aZ 2 w),aa (ep 3 4 p lf),ay (aP ro),.aj 0 cn]) (LF:=λN m=>Mt (FU CX EE N) N m [aw (ints l),iI (ln (ints l)),iI 0,aa (bJ s),aa (aZ 2 w),aa (ep 3 4 p lf),ay (aP ro),.aj 0 cn])
  (IX:=λN _=>FU CX EE N YP [aw (ints l),aa (bJ s),aa (aZ 2 w),aa (ep 3 4 p lf),ay (aP ro),.aj 0 cn])
  (scan (LF:=λi N m=>Mt (FU CX EE N) N m [aw (ints l),iI (ln (ints l)),iI (i:Int),aa (bJ s),aa (aZ 2 w),aa (ep 3 4 p lf),ay (aP ro),.aj 0 cn]) ?_ λi hi r q1 q2=> ?_) (λi hi=> ?_) (λhi=> ?_) λi hi=> ?_
 ·exact aY ahW (au dw (ab (EB)))
 ·refine aY ahW (aV (cZ hi) (az (cw hi) ?_));rw [hc,gf hi,ix hi hl];have hx:=hr l[i] (cY hi);have q:Ev aam [iI l[i],aa (bJ s),aa (aZ 2 w),aa (ep 3 4 p lf),ay (aP ro),.aj 0 cn] (0,[av (!re s (cW p.bq l[i])),aa (bJ s),aa (aZ 2 w),aa (ep 3 4 p lf),ay (aP ro),.aj 0 cn]):=by
   refine bj aCw (az (by show ib l[i] (cg p.bq).length =true;rw [yd];exact hx) ?_);erw [hc,qX hx];exact ae (aZJ DO (ct.ol.ok (Ct hx))) aD
  refine ae q ?_;exact VB
 ·refine bj ah9 ?_;rw [hc];exact aeP
 ·refine bj ah9 ?_;rw [hc];exact aeQ
 ·refine bj aw9 ?_;rw [hc];refine ae hi (ab ?_);erw [hc];rfl
def fitAll(p:PG)(s:SO)(b:Bool)(l:cj):Bool:=b&& !(l.any λo=> !re s (cW p.bq o))
include ct hc in
theorem Xp{b:Bool}(h:Ev D9 [aa (aZ 0 w),aa (aH e),aa (ep 1 2 p lf),ay (aP ro),.aj 0 cn] (0,aa (bJ s):: av b::iQ p ro lf cn))(hs:b=true->s.Inv p.bq.length)(hl:l.length<=mx)(hr:∀x∈l,ib x p.bq.length=true):
 Ev Ea [aa (aZ 0 w),aa (aH e),aw (ints l),aa (ep 1 2 p lf),ay (aP ro),.aj 0 cn] (0,av (fitAll p s b l)::iQ p ro lf cn):=by
 refine bj aEv ?_;rw [hc,e7];refine ae h ?_;cases b with
 |false=>exact Ht
 |true=>
  refine bh ?_;erw [hc];refine ae (aPB ct hc (hs rfl) hl hr) (ab ?_);erw [hc];rfl
include ct in
theorem awh(h1:Ev Gu [dY p ts ro w,aa (aH e)] (0,[aa (bJ t),c5]))(ht:t.Inv p.bq.length){o:Int}(ho:ib o p.bq.length=true):Ev Jr [dY p ts ro w,aa (aH e),iI o] (0,[av (re t (cW p.bq o))]):=by
 refine bj aDn ?_;rw [e7];refine ae h1 (bh (az (by show ib o (cg p.bq).length =true;rw [yd];exact ho) ?_));erw [qX ho];exact ae (aZI (ht.le ct.ol.len) (ct.ol.ok (Ct ho))) aD
end
end
end Go.Proofs.B.C
namespace Go.ah
def Vu{p:Prop}(h:p:=by have:=hw.loops;simp only [mx];omega):p:=h
end Go.ah
namespace Go.Proofs.B.C
open Go Go.ah
theorem Aa(e:CE):aF qP 0 (gA ([e].map aH) 0)=aH e:=e7 e
structure PlR(n:Nat)(k O:Int)(l l':cj):Prop where
 mem:∀x,x∈l ↔ x∈l'
 mX:∀x∈l,ib x n=true
 len:l.length<=mx
 avz:l'.length<=mx
 one:k≠3->l=[O]/\l'=[O]
section
variable {p:PG} {ts:List TK} {ro:List RO} (ct:CT p ts ro) {w:WH} (hw:w.Ok) {cn:aE} (hc:bz (aJ cn)=cn) {lf:Int} (hE:pD)
include hw hc in
theorem aYe{l:cj}(hl:l.length<=mx):
 Ev Ro [aw (ints l),aa (aZ 1 w),aa (ep 2 3 p lf),ay (aP ro),.aj 0 cn] (0,[av (l.any λo=>ei w.loops o),aa (aZ 1 w),aa (ep 2 3 p lf),ay (aP ro),.aj 0 cn]):=by
 refine Br (st:=[aa (aZ 1 w),aa (ep 2 3 p lf),ay (aP ro),.aj 0 cn]) (LF:=λN m=>Mr (FU CX EE N) N m [aw (ints l),iI (ln (ints l)),iI 0,aa (aZ 1 w),aa (ep 2 3 p lf),ay (aP ro),.aj 0 cn])
  (IX:=λN _=>FU CX EE N YK [aw (ints l),aa (aZ 1 w),aa (ep 2 3 p lf),ay (aP ro),.aj 0 cn])
  (scan (LF:=λi N m=>Mr (FU CX EE N) N m [aw (ints l),iI (ln (ints l)),iI (i:Int),aa (aZ 1 w),aa (ep 2 3 p lf),ay (aP ro),.aj 0 cn]) ?_ λi hi r q1 q2=> ?_) (λi hi=> ?_) (λhi=> ?_) λi hi=> ?_
 ·exact aY ahQ (au dw (ab (EB)))
 ·refine aY ahQ (aV (cZ hi) (az (cw hi) ?_));rw [hc,gf hi,ix hi hl];have q:Ev ZU [iI l[i],aa (aZ 1 w),aa (ep 2 3 p lf),ay (aP ro),.aj 0 cn] (0,[av (ei w.loops l[i]),aa (aZ 1 w),aa (ep 2 3 p lf),ay (aP ro),.aj 0 cn]):=by
   refine bj aA6 ?_;rw [hc];exact ae (yP (l:=w.loops) l[i] (Vu)) aD
  refine ae q ?_;exact VB
 ·refine bj ah0 ?_;rw [hc];exact aeP
 ·refine bj ah0 ?_;rw [hc];exact aeQ
 ·refine bj awU ?_;rw [hc];refine ae hi (ab ?_);erw [hc];rfl
def oN(k:Int):Int:=bif k==1 then 0 else 1
abbrev K0(p:PG)(lf:Int):AV:= aa (ep 1 2 p lf)
noncomputable abbrev aec (p:PG) (ro:List RO) (w:WH) (lf:Int) (cn:aE) (q:PL) (N:Nat):Option UO:=
 bO (D6 (FU CX EE N) N [iI (oN q.kind),K0 p lf,ay (aP ro),.aj 0 cn,aa (aZ 0 w),aa (dc q),aa [aT,aT,.ak 6,iI 0,iI 0],aw []]) λq4 o4=>bif Nat.beq q4 0 then bO (RP (FU CX EE N) N [aa (sT (aF eC 0 (gC o4 0)) eY),ay (gR o4 1),.aj 0 (bz (aJ (gR o4 2))),aa (sT (aF mO 0 (gC o4 3)) pX),aa (aF Nw 0 (gC o4 4)),aa (aF nc 0 (gC o4 5))]) λuK cO=>bif Nat.beq uK 0 then bO (FU CX EE N Ro [aw (gR cO 0),aa (sT (aF mO 0 (gC cO 4)) aPQ),aa (sT (aF eC 0 (gC cO 1)) aPP),ay (gR cO 2),.aj 0 (bz (aJ (gR cO 3)))]) λ_ dQ=>some (0,[aw (gR cO 0),av (!(gB dQ 0)),aa (sT (aF eC 0 (gC dQ 2)) eY),ay (gR dQ 3),.aj 0 (bz (aJ (gR dQ 4)))])else some (0,[aw (gR cO 7),av (gB cO 0),aa (sT (aF eC 0 (gC cO 1)) eY),ay (gR cO 2),.aj 0 (bz (aJ (gR cO 3)))])else some (0,[aw (gR o4 7),av (gB o4 0),aa (sT (aF eC 0 (gC o4 1)) eY),ay (gR o4 2),.aj 0 (bz (aJ (gR o4 3)))])
def vC(q:PL):Int:=bif q.kind==3 then 0 else q.O
def vB(q:PL):Int:=bif q.kind==3 then 0 else q.off
def vA(q:PL):Int:=bif q.kind==2 then q.len else 0
def wo(k:Int):Bool:=bif k==1 then true else bif k==2 then true else k==3
include hc in
theorem aOy(q:PL):bY ZM [iI 1,K0 p lf,ay (aP ro),.aj 0 cn,aa (dc q),aa [cu q.kind,iI 0,iI 0,iI 0,.ak 5],bR []]
 (bif wo q.kind then(0,[iI (oN q.kind),K0 p lf,ay (aP ro),.aj 0 cn,aa (dc q),aa [cu q.kind,iI (vC q),iI (vB q),iI (vA q),.ak 5],bR []])
   else(1,[aT,K0 p lf,ay (aP ro),.aj 0 cn,aa (dc q),aa [cu q.kind,iI 0,iI 0,iI 0,.ak 6],aw [],bR []])):=by
 refine bX aAo ?_;rw [hc];refine ax (c:=q.kind==1) (λk1=>ab ?_) λk1=>ax (c:=q.kind==2) (λk2=>ab ?_) λk2=>ax (c:=q.kind==3) (λk3=>ab ?_) λk3=>ab ?_
 ·have:wo q.kind=true:=by unfold wo;rw [k1];rfl
  rw [this];unfold oN vC vB vA;rw [k1,eq_of_beq k1];rfl
 ·have:wo q.kind=true:=by unfold wo;rw [k1,k2];rfl
  rw [this];unfold oN vC vB vA;rw [k1,k2,eq_of_beq k2];rfl
 ·have:wo q.kind=true:=by unfold wo;rw [k1,k2,k3];rfl
  rw [this];unfold oN vC vB vA;rw [k1,k2,k3];rfl
 ·have:wo q.kind=false:=by unfold wo;rw [k1,k2,k3];rfl
  exact iV
def uL(q:PL):Bool:=(vC q==q.O)&&((vB q==q.off)&&((vA q==q.len)&&((q.E.length:Int)==oN q.kind)))
include hc in
theorem aOx(q:PL):bY ZL [iI (oN q.kind),K0 p lf,ay (aP ro),.aj 0 cn,aa (dc q),aa [cu q.kind,iI (vC q),iI (vB q),iI (vA q),.ak 5],bR []]
 (bif uL q then(0,[K0 p lf,ay (aP ro),.aj 0 cn,aa (dc q),aa [cu q.kind,iI (vC q),iI (vB q),iI (vA q),.ak 5],bR []])
   else(1,[aT,K0 p lf,ay (aP ro),.aj 0 cn,aa (dc q),aa [cu q.kind,iI (vC q),iI (vB q),iI (vA q),.ak 6],aw [],bR []])):=by
 refine bX aAn ?_;rw [hc];refine ax (c:=vC q != q.O) (λh=>ab ?_) λh=>ax (c:=vB q != q.off) (λh2=>ab ?_) λh2=>ax (c:=vA q != q.len) (λh3=>ab ?_) λh3=>ax (c:=ln (q.E.map aH) != oN q.kind) (λh4=>ab ?_) λh4=>ab ?_
 ·have:uL q=false:=by unfold uL;rw [pY h];rfl
  exact iV
 ·have:uL q=false:=by unfold uL;rw [fb h,pY h2];rfl
  exact iV
 ·have:uL q=false:=by unfold uL;rw [fb h,fb h2,pY h3];rfl
  exact iV
 ·rw [c9]at h4;have:uL q=false:=by unfold uL;rw [fb h,fb h2,fb h3,pY h4];rfl
  exact iV
 ·rw [c9]at h4;have:uL q=true:=by unfold uL;rw [fb h,fb h2,fb h3,fb h4];rfl
  exact iV
def zz(q:PL):Bool:=wo q.kind&&uL q
include hc in
theorem UC{q:PL}{r:UO}(h0:zz q=false->(0,aw []:: aT::iQ p ro lf cn)=r)(h1:zz q=true->E (λN _=>aec p ro w lf cn q N) r):
 Ev D8 [aa (aZ 0 w),aa (dc q),K0 p lf,ay (aP ro),.aj 0 cn] r:=by
 refine bj aCu ?_;rw [hc];refine ae (aOy (lf:=lf) hc q) ?_;cases hk:wo q.kind with
 |false=>
  refine bm (ab ?_);rw [<-h0 (by unfold zz;rw [hk];rfl)];erw [hc];rfl
 |true=>
  refine bh ?_;simp only [bT];erw [hc];refine ae (aOx (lf:=lf) hc q) ?_;cases hg:uL q with
  |false=>
   refine bm (ab ?_);rw [<-h0 (by unfold zz;rw [hk,hg];rfl)];erw [hc];rfl
  |true=>
   have h1:=h1 (by unfold zz;rw [hk,hg];rfl);refine bh ?_;simp only [bT];erw [hc];exact h1
end
end Go.Proofs.B.C
namespace Go.ah
def rI{p:Prop}(h:p:=by exact bm aD):p:=h
def wQ{p:Prop}(h:p:=by exact bh aD):p:=h
end Go.ah
namespace Go.Proofs.B.C
open Go Go.ah
section
variable{f o:Int}{l:List OB}{q:PL}{s:SO}
theorem aYd(h:zz q=true)(k1:(q.kind==1)=true):q.E=[]:=by
 unfold zz uL at h;simp only [bA]at h;have:=eq_of_beq h.2.2.2.2;rw [show oN q.kind=0 by unfold oN;rw [k1];rfl]at this;exact Cr (by omega)
theorem aYc(h:zz q=true)(k1:(q.kind==1)=false):∃e,q.E=[e]:=by
 unfold zz uL at h;simp only [bA]at h;have:=eq_of_beq h.2.2.2.2;rw [show oN q.kind=1 by unfold oN;rw [k1];rfl]at this
 match hE:q.E with
 | [e]=>exact⟨e,rfl⟩
 | []=>rw [hE]at this;simp at this
 |_::_::_=>rw [hE]at this;simp at this;omega
theorem aYb(h:zz q=true)(k1:(q.kind==1)=false)(k2:(q.kind==2)=false):(q.kind==3)=true:=by
 unfold zz wo at h;rw [k1,k2]at h;simp only [bM,bA]at h;exact h.1
theorem Ot(hs:lV l o f=true):ib o l.length=true:=by
 unfold lV at hs;exact Po
theorem aoj{n:Int}(hs:vZ l o f n=true):ib o l.length=true:=by
 unfold vZ at hs;exact Po
section
variable {p:PG} {ts:List TK} {ro:List RO} (ct:CT p ts ro) {w:WH} (hw:w.Ok) {cn:aE} (hc:bz (aJ cn)=cn) {lf:Int} (hE:pD)
include hc in
theorem aL3(k1:(q.kind==1)=true):bY D6 [iI (oN q.kind),K0 p lf,ay (aP ro),.aj 0 cn,aa (aZ 0 w),aa (dc q),aa [aT,aT,.ak 6,iI 0,iI 0],aw []]
 (0,[K0 p lf,ay (aP ro),.aj 0 cn,aa (aZ 0 w),aa (dc q),aa (bJ uI)]):=by
 rw [show oN q.kind=0 by unfold oN;rw [k1];rfl];refine bX aiX (bm (ab ?_));rw [hc];rfl
include hc in
theorem aL2{e:CE}(k1:(q.kind==1)=false)(he:q.E=[e]){b:Bool}(h:Ev D9 [aa (aZ 0 w),aa (aH e),aa (ep 1 2 p lf),ay (aP ro),.aj 0 cn] (0,aa (bJ s):: av b::iQ p ro lf cn)):
 bY D6 [iI (oN q.kind),K0 p lf,ay (aP ro),.aj 0 cn,aa (aZ 0 w),aa (dc q),aa [aT,aT,.ak 6,iI 0,iI 0],aw []]
 (bif b then(0,[K0 p lf,ay (aP ro),.aj 0 cn,aa (aZ 0 w),aa (dc q),aa (bJ s)])else(1,[aT,K0 p lf,ay (aP ro),.aj 0 cn,aa (aZ 0 w),aa (dc q),aa (bJ s),aw []])):=by
 rw [show oN q.kind=1 by unfold oN;rw [k1];rfl];refine bX aiX (bh ?_);rw [hc,show gR (dc q) 4=[e].map aH by rw [<-he];rfl,Aa];refine az rfl (ae h ?_);erw [hc];cases b with
 |false=>exact wQ
 |true=>exact rI
def oe(p:PG)(ro:List RO)(w:WH)(q:PL)(s:SO):Bool:=
 bif q.kind==1 then(lV p.bq q.O q.off&&oa ro w q.O)else bif q.kind==2 then(!s.ptr&&(vZ p.bq q.O q.off q.len&&oa ro w q.O))else(s.ptr||s.null)
def xf(q:PL)(s:SO):cj:=bif q.kind==1 then [q.O]else bif q.kind==2 then [q.O]else s.set
include ct hw hc in
theorem aL4(q:PL)(s:SO):bY RP [K0 p lf,ay (aP ro),.aj 0 cn,aa (aZ 0 w),aa (dc q),aa (bJ s)]
 (bif oe p ro w q s then(0,[aw (ints (xf q s)),K0 p lf,ay (aP ro),.aj 0 cn,aa (aZ 0 w),aa (dc q),aa (bJ s)])
   else(1,[aT,K0 p lf,ay (aP ro),.aj 0 cn,aa (aZ 0 w),aa (dc q),aa (bJ s),aw []])):=by
 have nO:∀{o:Int},ib o p.bq.length=true->ib o ro.length=true:=λh=>by rw [ct.len];exact h
 refine bX azj ?_;rw [hc];refine ax (c:=q.kind==1) (λk1=> ?_) λk1=>ax (c:=q.kind==2) (λk2=> ?_) λk2=> ?_
 ·refine ae (VD (l:=p.bq) (en:= -1) (o:=q.O) (off:=q.off)) (ax (c:= !lV p.bq q.O q.off) (λh=>ab ?_) λh=> ?_)
  ·simp only [iy]at h;have:oe p ro w q s=false:=by unfold oe;rw [k1,h];rfl
   exact iV
  ·simp only [iS]at h;refine ae (PZ hw hc (nO (Ot h))) ?_;erw [hc];refine ax (c:= !oa ro w q.O) (λh'=>ab ?_) λh'=>ab ?_
   ·simp only [iy]at h';have:oe p ro w q s=false:=by unfold oe;rw [k1,h,h'];rfl
    exact iV
   ·simp only [iS]at h';have:oe p ro w q s=true:=by unfold oe;rw [k1,h,h'];rfl
    rw [this];unfold xf;rw [k1];rfl
 ·have hj:bY Ze [K0 p lf,ay (aP ro),.aj 0 cn,aa (aZ 0 w),aa (dc q),aa (bJ s)]
   (bif oe p ro w q s then(0,[K0 p lf,ay (aP ro),.aj 0 cn,aa (aZ 0 w),aa (dc q),aa (bJ s)])else(1,[aT,K0 p lf,ay (aP ro),.aj 0 cn,aa (aZ 0 w),aa (dc q),aa (bJ s),aw []])):=by
   refine bX ayA ?_;rw [hc];refine ax (c:=s.ptr) (λh=>ab ?_) λh=>ae (au7 (l:=p.bq) (en:= -1) (o:=q.O) (off:=q.off) (n:=q.len)) (ax (c:= !vZ p.bq q.O q.off q.len) (λh2=>ab ?_) λh2=> ?_)
   ·have:oe p ro w q s=false:=by unfold oe;rw [k1,k2,h];rfl
    exact iV
   ·simp only [iy]at h2;have:oe p ro w q s=false:=by unfold oe;rw [k1,k2,h,h2];rfl
    exact iV
   ·simp only [iS]at h2;refine ae (PZ hw hc (nO (aoj h2))) ?_;erw [hc];refine ax (c:= !oa ro w q.O) (λh'=>ab ?_) λh'=>ab ?_
    ·simp only [iy]at h';have:oe p ro w q s=false:=by unfold oe;rw [k1,k2,h,h2,h'];rfl
     exact iV
    ·simp only [iS]at h';have:oe p ro w q s=true:=by unfold oe;rw [k1,k2,h,h2,h'];rfl
     exact iV
  refine ae hj ?_;cases hp:oe p ro w q s with
  |false=>exact Ht
  |true=>refine bh (ab ?_);erw [hc];unfold xf;rw [k1,k2];rfl
 ·refine ax (c:= !s.ptr) (λh=>ax (c:= !s.null) (λh2=>ab ?_) λh2=>ab ?_) λh=>ab ?_
  ·simp only [iy]at h h2;have:oe p ro w q s=false:=by unfold oe;rw [k1,k2,h,h2];rfl
   exact iV
  ·simp only [iS]at h2;have:oe p ro w q s=true:=by unfold oe;rw [k1,k2,h2];simp
   rw [this];unfold xf;rw [k1,k2];rfl
  ·simp only [iS]at h;have:oe p ro w q s=true:=by unfold oe;rw [k1,k2,h];simp
   rw [this];unfold xf;rw [k1,k2];rfl
include ct hw hc in
theorem aL5(hs:(xf q s).length <=mx)
 (h:bY D6 [iI (oN q.kind),K0 p lf,ay (aP ro),.aj 0 cn,aa (aZ 0 w),aa (dc q),aa [aT,aT,.ak 6,iI 0,iI 0],aw []] (0,[K0 p lf,ay (aP ro),.aj 0 cn,aa (aZ 0 w),aa (dc q),aa (bJ s)])):
 E (λN _=>aec p ro w lf cn q N) (bif oe p ro w q s then(0,aw (ints (xf q s)):: av (!((xf q s).any λo=>ei w.loops o))::iQ p ro lf cn)else(0,aw []:: aT::iQ p ro lf cn)):=by
 refine ae h (bh ?_);erw [hc];refine ae (aL4 ct hw hc q s) ?_;cases hp:oe p ro w q s with
 |false=>exact Ht
 |true=>
  refine bh ?_;simp only [bT];erw [hc];refine ae (aYe hw hc hs) (ab ?_);exact qn
include hc in
theorem aL6(h:bY D6 [iI (oN q.kind),K0 p lf,ay (aP ro),.aj 0 cn,aa (aZ 0 w),aa (dc q),aa [aT,aT,.ak 6,iI 0,iI 0],aw []] (1,[aT,K0 p lf,ay (aP ro),.aj 0 cn,aa (aZ 0 w),aa (dc q),aa (bJ s),aw []])):
 E (λN _=>aec p ro w lf cn q N) (0,aw []:: aT::iQ p ro lf cn):=by
 refine ae h (bm (ab ?_));erw [hc];rfl
theorem aOw(hk:wo q.kind=true):bY abA [iI 0,aa (dc q),aa [cu q.kind,iI 0,iI 0,iI 0,.ak 2],bR []] (0,[iI (oN q.kind),aa (dc q),aa [cu q.kind,iI (vC q),iI (vB q),iI (vA q),.ak 2],bR []]):=by
 refine bX aGD (ax (c:=q.kind==1) (λk1=>ab ?_) λk1=>ax (c:=q.kind==2) (λk2=>ab ?_) λk2=>aV (c:=q.kind==3) (by unfold wo at hk;rw [k1,k2]at hk;exact hk) (ab ?_))
 ·unfold oN vC vB vA;rw [k1,eq_of_beq k1];rfl
 ·unfold oN vC vB vA;rw [k1,k2,eq_of_beq k2];rfl
 ·have k3:(q.kind==3)=true:=by unfold wo at hk;rw [k1,k2]at hk;exact hk
  unfold oN vC vB vA;rw [k1,k2,k3];rfl
theorem aOv(hg:uL q=true):bY abz [iI (oN q.kind),aa (dc q),aa [cu q.kind,iI (vC q),iI (vB q),iI (vA q),.ak 2],bR []] (0,[aa (dc q),aa [cu q.kind,iI (vC q),iI (vB q),iI (vA q),.ak 2],bR []]):=by
 unfold uL at hg;simp only [bA,iA]at hg;obtain⟨g1,g2,g3,g4⟩:=hg;exact bX aGC (au (c:=ln (q.E.map aH) != oN q.kind) (by rw [c9,g4];simp)<|au (c:=q.O != vC q) (by rw [g1];simp)<|au (c:=q.off != vB q) (by rw [g2];simp)<|au (c:=q.len != vA q) (by rw [g3];simp)<|aD)
end
end
end Go.Proofs.B.C
namespace Go.ah
def Bc{p:Prop}(h:p:=by rw [he];rfl):p:=h
def G2{p:Prop}(h:p:=by rw [he];simp):p:=h
def Vi{p:Prop}(h:p:=by rw [hF]at h;cases h):p:=h
end Go.ah
namespace Go.Proofs.B.C
open Go Go.ah
section
variable{q:PL}
theorem one_le(x:Int): [x].length <=mx:=by show 1<=1048576;omega
section
variable {p:PG} {ts:List TK} {ro:List RO} (ct:CT p ts ro) {w:WH} (hw:w.Ok) {cn:aE} (hc:bz (aJ cn)=cn) {lf:Int} (hE:pD)
include hw in
theorem aPK(hq:q.Ok){l:cj}(hl:l.length<=mx)(h:Ev NU [dg (cg p.bq),aa (dc q)] (0,[aw (ints l),c5]))
 (hf:∀e∈q.E,Ev xv [dY p ts ro w,aa (aH e)] (0,[c5])) (hn:∀x∈l,ei w.loops x=false/\((q.kind != 3)=true->ib x ro.length=true/\oa ro w x=true)):
 Ev JA [dY p ts ro w,aa (dc q)] (0,[aw (ints l),c5]):=by
 have k1:=fP (m:=q.E.length) (P:=λi=>bS Sg [iI (i:Int),dY p ts ro w,aa (dc q)] (1,[dY p ts ro w,aa (dc q)]))
  (aY ajj (au (dw (f:=aH) (l:=q.E)) aD))
  λi hi ih=>aY ajj<|aV (cZ (f:=aH) hi)<|az (cw (f:=aH) hi)<|by
   rw [show gR (dc q) 4=q.E.map aH from rfl,vW hi,ix hi hq.1];exact ae (hf _ (cY hi)) (bm ih)
 have k2:=fP (m:=l.length) (P:=λi=>bS MU [aw (ints l),iI (i:Int),dY p ts ro w,aa (dc q)] (1,[dY p ts ro w,aa (dc q)]))
  (aY aji (au dw aD))
  λi hi ih=>aY aji<|aV (cZ hi)<|az (cw hi)<|by
   obtain⟨g1,g2⟩:=hn _ (cY hi);rw [gf hi,ix hi hl];refine ae (AD (l:=w.loops) l[i] (Vu)) (au g1 (ax (c:=q.kind != 3) (λb=>az (cw hi) ?_) λ_=>ih));exact ae (Xc hw (g2 b).1) (au (by show(!oa ro w l[i])=false;rw [(g2 b).2];rfl) ih)
 exact bj aFF (ae h (bm (ae (bX aCn (ae k1.diag (bm aD))) (bh (ae k2.diag (bm aD))))))
include ct hw hc hE in
theorem plE(hq:q.Ok):∃l b,
 Ev D8 [aa (aZ 0 w),aa (dc q),K0 p lf,ay (aP ro),.aj 0 cn] (0,aw (ints l):: av b::iQ p ro lf cn)/\(b=true->∃l',Ev JA [dY p ts ro w,aa (dc q)] (0,[aw (ints l'),c5])/\PlR p.bq.length q.kind q.O l l'):=by
 have nO:∀{o:Int},ib o p.bq.length=true->ib o ro.length=true:=λh=>by rw [ct.len];exact h
 cases hF:zz q with
 |false=>exact⟨[],false,UC hc (λ_=>rfl) (λh=>Vi),λh=>aM⟩
 |true=>
  have plR:∀r:UO,_->Ev NU [dg (cg p.bq),aa (dc q)] r:=λr h=>by
   refine bj aIV (ae (aOw (bA _ _▸hF).1) (bh (ae (aOv (bA _ _▸hF).2) (bh ?_))));exact h
  have fin:∀s:SO,s.Inv p.bq.length->bY D6 [iI (oN q.kind),K0 p lf,ay (aP ro),.aj 0 cn,aa (aZ 0 w),aa (dc q),aa [aT,aT,.ak 6,iI 0,iI 0],aw []] (0,[K0 p lf,ay (aP ro),.aj 0 cn,aa (aZ 0 w),aa (dc q),aa (bJ s)])->
   (oe p ro w q s=true->∃l',Ev NU [dg (cg p.bq),aa (dc q)] (0,[aw (ints l'),c5])/\(∀e∈q.E,Ev xv [dY p ts ro w,aa (aH e)] (0,[c5]))/\PlR p.bq.length q.kind q.O (xf q s) l'/\((q.kind != 3)=true->oa ro w q.O=true))->∃l b,
   Ev D8 [aa (aZ 0 w),aa (dc q),K0 p lf,ay (aP ro),.aj 0 cn] (0,aw (ints l):: av b::iQ p ro lf cn)/\(b=true->∃l',Ev JA [dY p ts ro w,aa (dc q)] (0,[aw (ints l'),c5])/\PlR p.bq.length q.kind q.O l l'):=λs hs h hr=>by
   have hl:(xf q s).length <=mx:=by
    unfold xf;cases q.kind==1 with
    |true=>exact one_le _
    |false=>cases q.kind==2 with
     |true=>exact one_le _
     |false=>exact hs.le ct.ol.len
   have hC:=aL5 ct hw hc (lf:=lf) hl h;cases hO:oe p ro w q s with
   |false=>rw [hO]at hC;exact⟨[],false,UC hc (λh=>Vi) λ_=>hC,λh=>aM⟩
   |true=>
    rw [hO]at hC;refine⟨xf q s,_,UC hc (λh=>Vi) λ_=>hC,λhb=> ?_⟩;obtain⟨l',r1,r2,pl,hm⟩:=hr hO;simp only [iy]at hb;refine⟨l',aPK hw hq pl.avz r1 r2 λx hx=>⟨by simpa using zY.1 hb x ((pl.mem x).2 hx),λk3=> ?_⟩,pl⟩;have e:=(pl.one (by simpa using k3)).2;rw [e]at hx;rw [sP.1 hx];exact⟨nO (pl.mX _ ((pl.mem _).2 (by rw [e];simp))),hm k3⟩
  have o1:∀{x:Int},ib x p.bq.length=true->∀y∈ [x],ib y p.bq.length=true:=λh y hy=>by rw [sP.1 hy];exact h
  cases k1:q.kind==1 with
  |true=>
   have Yl:=aYd hF k1;refine fin uI (Ox rfl) (aL3 hc k1) λhO=> ?_;unfold oe at hO;rw [k1]at hO;simp only [bT,bA]at hO;exact⟨[q.O],plR _ (aV k1 (ae arP (ab (by unfold c5;rw [<-hO.1];rfl)))),(λe h=>by rw [Yl]at h;cases h),by unfold xf;rw [k1];exact⟨λ_=>Iff.rfl,o1 (Ot hO.1),one_le _,one_le _,λ_=>⟨rfl,rfl⟩⟩,λ_=>hO.2⟩
  |false=>
   obtain⟨e,he⟩:=aYc hF k1;obtain⟨s,b,h1,h3⟩:=Hy ct hw hc (lf:=lf) hE e (hq.2 e (G2));have av2:=aL2 hc k1 he h1;cases b with
   |false=>exact⟨[],false,UC hc (λh=>Vi) λ_=>aL6 hc av2,λh=>aM⟩
   |true=>
    obtain⟨t,g1,g2,ri,_⟩:=h3 rfl;have IE:=ri.r.le ct.ol.len;refine fin s ri.l av2 λhO=> ?_;have hu:∀e'∈q.E,Ev xv [dY p ts ro w,aa (aH e')] (0,[c5]):=λe' h'=>by rw [he]at h';rw [sP.1 h'];exact g2
    rw [<-Aa e,<-he]at g1;have bI:decide (0<ln (q.E.map aH))=true:=Bc;unfold oe at hO;unfold xf;rw [k1]at hO⊢;cases k2:q.kind==2 with
    |true=>
     rw [k2]at hO;simp only [bT,bM,bA]at hO;have hn:(!t.ptr)=true:=by rw [<-ri.rel.ptr];exact hO.1
     exact⟨[q.O],plR _ (au k1 (az bI (ae g1 (aV k2 (bh (aV hn (ae asV (ab (by unfold c5;rw [<-hO.2.1];rfl))))))))),hu,⟨λ_=>Iff.rfl,o1 (aoj hO.2.1),one_le _,one_le _,λ_=>⟨rfl,rfl⟩⟩,λ_=>hO.2.2⟩
    |false=>
     rw [k2]at hO;have hO:(s.ptr||s.null)=true:=hO;have k3:=aYb hF k1 k2;rw [ri.rel.ptr,ri.rel.null]at hO;refine⟨t.set,plR _ (au k1 (az bI (ae g1 (au k2 (bh (ax (c:=t.ptr) (λ_=>aD) λh=>ab ?_)))))),hu,⟨ri.rel.set,ri.l.mX,ri.l.le ct.ol.len,IE,λh=>absurd (eq_of_beq k3) h⟩,λh=>by rw [bne,k3]at h;cases h⟩;rw [h]at hO;unfold c5;rw [<-show t.null=true from hO];rfl
end
end
section
variable{i:Int}{l:List TK}{q:PL}
theorem C6(h:ib i l.length=true):gA (l.map cA) i.toNat=cA (dH l i):=by
 have:=mR.1 h;have h2:i.toNat<l.length:=by omega
 rw [wR h2];simp [dH,h2]
theorem GQ(h:ib i l.length=true):dH l i∈l:=by
 have:=mR.1 h;have h2:i.toNat<l.length:=by omega
 simp only [dH,pA,c8 h2,qm];exact cY h2
def en0:EN:=⟨[],[]⟩
def H0(l:List EN)(i:Int):EN:=l.getD i.toNat en0
theorem afZ{l:List EN}(h:ib i l.length=true):gA (l.map nM) i.toNat=nM (H0 l i):=by
 have:=mR.1 h;have h2:i.toNat<l.length:=by omega
 rw [wR h2];simp [H0,h2]
theorem adA{l:List EN}(h:ib i l.length=true):H0 l i∈l:=by
 have:=mR.1 h;have h2:i.toNat<l.length:=by omega
 simp only [H0,pA,c8 h2,qm];exact cY h2
def pr0:PR:=⟨0,[],[]⟩
def yh(l:List PR)(i:Int):PR:=l.getD i.toNat pr0
theorem We{l:List PR}(h:ib i l.length=true):gA (l.map il) i.toNat=il (yh l i):=by
 have:=mR.1 h;have h2:i.toNat<l.length:=by omega
 rw [wR h2];simp [yh,h2]
section
variable {p:PG} {ts:List TK} {ro:List RO} (ct:CT p ts ro) {w:WH} (hw:w.Ok) {cn:aE} (hc:bz (aJ cn)=cn) {lf:Int} (hE:pD)
def rU(p:PG)(t e:Int):Bool:=bif decide (0<=t)then bif decide (t<(p.tasks.length:Int))then bif decide (0<=e)then decide (e<((dH p.tasks t).aJ.length :Int))else false else false else false
include hc in
theorem Xt(t e:Int):Ev Jn [aa (aZ 0 w),iI t,iI e,aa (ep 1 2 p lf),ay (aP ro),.aj 0 cn] (0,av (rU p t e)::iQ p ro lf cn):=by
 refine bj aCx ?_;rw [hc];refine ax (c:=decide (0<=t)) (λh1=>ax (c:=decide (t<ln (p.tasks.map cA))) (λh2=>ax (c:=decide (0<=e)) (λh3=> ?_) λh3=>ab ?_) λh2=>ab ?_) λh1=>ab ?_
 ·rw [c9]at h2;have hi:=zd h1 h2;refine az (by show ib t (p.tasks.map cA).length =true;rw [dW];exact hi) (ab ?_);show(0,[av (decide (e<ln (gR (gA (p.tasks.map cA) t.toNat) 1))),_,_,_])=_;rw [C6 hi];show(0,[av (decide (e<ln ((dH p.tasks t).aJ.map nM))),_,_,_])=_;rw [c9];unfold rU;rw [h1,h2,h3];rfl
 ·rw [c9]at h2;unfold rU;rw [h1,h2,h3];rfl
 ·rw [c9]at h2;unfold rU;rw [h1,h2];rfl
 ·unfold rU;rw [h1];rfl
include ct in
theorem aM2:ln (ts.map cA)=(p.tasks.length:Int):=by rw [c9,ct.same.len]
theorem UG{t e:Int}(h:rU p t e=true):ib t p.tasks.length=true/\ib e (dH p.tasks t).aJ.length =true:=by
 unfold rU at h;cases h1:decide (0<=t)<;>rw [h1]at h
 ·exact aM
 cases h2:decide (t<(p.tasks.length:Int))<;>rw [h2]at h
 ·exact aM
 cases h3:decide (0<=e)<;>rw [h3]at h
 ·exact aM
 exact⟨zd h1 h2,zd h3 h⟩
def Bq(p:PG)(t e:Int):Bool:=bif decide (0<=t)then bif decide (t<(p.bW.length:Int))then bif decide (0<=e)then decide (e<((yh p.bW t).bars.length :Int))else false else false else false
include hc in
theorem asY(t e:Int):Ev Sl [aa (aZ 0 w),iI t,iI e,aa (ep 1 2 p lf),ay (aP ro),.aj 0 cn] (0,av (Bq p t e)::iQ p ro lf cn):=by
 refine bj aDr ?_;rw [hc];refine ax (c:=decide (0<=t)) (λh1=>ax (c:=decide (t<ln (p.bW.map il))) (λh2=>ax (c:=decide (0<=e)) (λh3=> ?_) λh3=>ab ?_) λh2=>ab ?_) λh1=>ab ?_
 ·rw [c9]at h2;have hi:=zd h1 h2;refine az (by show ib t (p.bW.map il).length =true;rw [dW];exact hi) (ab ?_);show(0,[av (decide (e<ln (gR (gA (p.bW.map il) t.toNat) 2))),_,_,_])=_;rw [We hi];show(0,[av (decide (e<ln ((yh p.bW t).bars.map aH))),_,_,_])=_;rw [c9];unfold Bq;rw [h1,h2,h3];rfl
 ·rw [c9]at h2;unfold Bq;rw [h1,h2,h3];rfl
 ·rw [c9]at h2;unfold Bq;rw [h1,h2];rfl
 ·unfold Bq;rw [h1];rfl
def HN(p:PG)(w:WH)(e:Int):Bool:=rU p w.task e&& !ei w.rG e
include hw hc in
theorem avh(e:Int):Ev Ss [aa (aZ 0 w),iI e,aa (ep 1 2 p lf),ay (aP ro),.aj 0 cn] (0,av (HN p w e)::iQ p ro lf cn):=by
 refine bj aEt ?_;rw [hc];refine ae (Xt (lf:=lf) hc w.task e) ?_;erw [hc];refine ax (c:=rU p w.task e) (λh=>ae (yP (l:=w.rG) e (aeO)) (ab ?_)) λh=>ab ?_
 ·unfold HN;rw [h];rfl
 ·unfold HN;rw [h];rfl
include ct hw hc hE in
theorem arW(hq:q.Ok):∃b,Ev MN [aa (aZ 0 w),aa (dc q),aa (ep 1 2 p lf),ay (aP ro),.aj 0 cn] (0,av b::iQ p ro lf cn)/\(b=true->Ev M4 [dY p ts ro w,aa (dc q)] (0,[c5])):=by
 obtain⟨l,b,h1,h3⟩:=plE ct hw hc (lf:=lf) hE hq;cases b with
 |false=>
  refine⟨false,bj ZD ?_,λh=>aM⟩;rw [hc];refine ae h1 ?_;erw [hc];exact rI
 |true=>
  obtain⟨l',h2,hp⟩:=h3 rfl;cases k3:q.kind != 3 with
  |false=>
   refine⟨false,bj ZD ?_,λh=>aM⟩;rw [hc];refine ae h1 ?_;erw [hc];exact bh (au k3 aD)
  |true=>
   obtain⟨rfl,rfl⟩:=hp.one (by simpa using k3);have hi:=hp.mX q.O (by simp);have eJ:ib q.O (cg p.bq).length =true:=OU;refine⟨!(cW p.bq q.O).ptr,bj ZD ?_,λh=>bj aDm (ae h2 (bh (aV k3 (az rfl (az eJ (ab ?_))))))⟩
   ·rw [hc];refine ae h1 ?_;erw [hc];refine bh (aV k3 (az rfl (az eJ (ab ?_))));show(0,[av (!(gB (gA (cg p.bq) q.O.toNat) 3)),_,_,_])=_;rw [qX hi];rfl
   ·show(0,[av (!(gB (gA (cg p.bq) q.O.toNat) 3))])=_;unfold c5;rw [qX hi,<-h];rfl
include ct hw hc hE in
theorem aQw(hq:q.Ok){e:CE}(he:e.Ok){f:gp}(hT:f.To=[q])(hF:f.E=[e]):∃l b1 b,
 Ev D8 [aa (aZ 0 w),aa (dc q),K0 p lf,ay (aP ro),.aj 0 cn] (0,aw (ints l):: av b1::iQ p ro lf cn)/\
 (b1=true->Ev Ea [aa (aZ 0 w),aa (aH e),aw (ints l),K0 p lf,ay (aP ro),.aj 0 cn] (0,av b::iQ p ro lf cn))/\
 ((b1&&b)=true->vO p.bq.length e/\∀{L D H A:aE},Ev abF [dY p ts ro w,aa (fX f L D H A)] (0,[c5])):=by
 obtain⟨l,b1,h1,h3⟩:=plE ct hw hc (lf:=lf) hE hq;obtain⟨s,b,g1,g3⟩:=Hy ct hw hc (lf:=lf) hE e he;cases b1 with
 |false=>exact⟨l,false,false,h1,(λh=>aM),λh=>aM⟩
 |true=>
  obtain⟨l',h2,hp⟩:=h3 rfl;refine⟨l,true,fitAll p s b l,h1,λ_=>Xp ct hc g1 (λh=>(g3 h).choose_spec.2.2.1.l) hp.len hp.mX,λh=> ?_⟩;unfold fitAll at h;simp only [wM,bA,iy]at h;obtain⟨t,q1,q2,ri,eT⟩:=g3 h.1;have g2:=Wg q1 q2;refine⟨eT,λ{L D H A}=> ?_⟩;have AT:gR (fX f L D H A) 14=[q].map dc:=by rw [<-hT];rfl
  have sL:gR (fX f L D H A) 12=[e].map aH:=by rw [<-hF];rfl
  have hl:=fP (m:=l'.length) (P:=λi=>bS Sq [aw (ints l'),iI (i:Int),dY p ts ro w,aa (fX f L D H A)] (1,[dY p ts ro w,aa (fX f L D H A)]))
   (aY ajE (au dw aD))
   λi hi ih=>aY ajE<|aV (cZ hi)<|az (by rw [sL];rfl)<|az (cw hi)<|by
    have hm:=(hp.mem _).2 (cY hi);have hb:re t (cW p.bq l'[i])=true:=by
     rw [<-ri.rel.re];simpa using zY.1 h.2 _ hm
    erw [sL];rw [gf hi,ix hi hp.avz,Aa];exact ae (awh ct g2 ri.r (hp.mX _ hm)) (au (by show(!re t (cW p.bq l'[i]))=false;rw [hb];rfl) ih)
  refine bj aHv (az (by rw [AT];rfl) ?_);erw [AT];refine ae h2 (bm (az (by rw [sL];rfl) ?_));erw [sL];rw [Aa];exact ae g2 (ae hl.diag (bm aD))
end
end
end Go.Proofs.B.C
namespace Go.ah
def afA{p:Prop}(h:p:=by rw [c9,c9];cases h:a.length==b.length<;>simp at h⊢<;>omega):p:=h
def EG{p:Prop}(h:p:=by rw [gf hi];rfl):p:=h
def Vk{p:Prop}(h:p:=by refine bh (ab ?_);erw [hc];rfl):p:=h
def apj{p:Prop}(h:p:=by
 rw [hc];refine ae jc (bm (ab ?_));erw [hc];rfl):p:=h
def ao6{p:Prop}(h:p:=by obtain⟨_,_,_,ri,_⟩:=g3 h;exact ri.l):p:=h
end Go.ah
namespace Go.Proofs.B.C
open Go Go.ah
theorem amL{m:Nat}{P:Nat->Bool->Prop}(h:∀i,i<m->∃b,P i b):∃f:Nat->Bool,∀i,i<m->P i (f i):=by
 have h':∀i,∃b,i<m->P i b:=λi=>by
  by_cases hi:i<m
  ·obtain⟨b,hb⟩:=h i hi;exact⟨b,λ_=>hb⟩
  ·exact⟨true,λh=>absurd h hi⟩
 obtain⟨f,hf⟩:=ac2 h';exact⟨f,hf⟩
section
variable {p:PG} {ts:List TK} {ro:List RO} (ct:CT p ts ro) {w:WH} (hw:w.Ok) {cn:aE} (hc:bz (aJ cn)=cn) {lf:Int} (hE:pD)
abbrev ic(x:EN):AV:= aa [aw (ints x.ins),aw (ints x.outs)]
include ct hc in
theorem aN1{x:EN}{i:Nat}(hi:i<x.outs.length)(hx:ib x.outs[i] p.bq.length=true){l:cj}(hl:l.length<=mx)(hr:∀y∈l,ib y p.bq.length=true):
 Ev YH [aw (ints l),aa (aZ 3 w),ic x,aa [iI (i:Int)],aa (ep 4 5 p lf),ay (aP ro),.aj 0 cn] (0,[av (l.any λo=> !zm (cW p.bq x.outs[i]) (cW p.bq o)),aa (aZ 3 w),ic x,aa [iI (i:Int)],aa (ep 4 5 p lf),ay (aP ro),.aj 0 cn]):=by
 refine Br (st:=[aa (aZ 3 w),ic x,aa [iI (i:Int)],aa (ep 4 5 p lf),ay (aP ro),.aj 0 cn]) (LF:=λN m=>Ms (FU CX EE N) N m [aw (ints l),iI (ln (ints l)),iI 0,aa (aZ 3 w),ic x,aa [iI (i:Int)],aa (ep 4 5 p lf),ay (aP ro),.aj 0 cn])
  (IX:=λN _=>FU CX EE N YL [aw (ints l),aa (aZ 3 w),ic x,aa [iI (i:Int)],aa (ep 4 5 p lf),ay (aP ro),.aj 0 cn])
  (scan (LF:=λj N m=>Ms (FU CX EE N) N m [aw (ints l),iI (ln (ints l)),iI (j:Int),aa (aZ 3 w),ic x,aa [iI (i:Int)],aa (ep 4 5 p lf),ay (aP ro),.aj 0 cn]) ?_ λj hj r q1 q2=> ?_) (λj hj=> ?_) (λhj=> ?_) λj hj=> ?_
 ·exact aY ahU (au dw (ab (EB)))
 ·refine aY ahU (aV (cZ hj) (az (cw hj) ?_));rw [hc,gf hj,ix hj hl];have hy:=hr l[j] (cY hj);have q:Ev Z8 [iI l[j],aa (aZ 3 w),ic x,aa [iI (i:Int)],aa (ep 4 5 p lf),ay (aP ro),.aj 0 cn] (0,[av (!zm (cW p.bq x.outs[i]) (cW p.bq l[j])),aa (aZ 3 w),ic x,aa [iI (i:Int)],aa (ep 4 5 p lf),ay (aP ro),.aj 0 cn]):=by
   have ea:gI (gA (ints x.outs) ((i:Int).toNat)) 0=x.outs[i]:=EG;refine bj aBR (az (cw hi) (az (by show ib (gI (gA (ints x.outs) ((i:Int).toNat)) 0) (cg p.bq).length =true;rw [ea,yd];exact hx) (az (by show ib l[j] (cg p.bq).length =true;rw [yd];exact hy) ?_)));rw [hc];have e1:gA (cg p.bq) (gI (gA (ints x.outs) ((i:Int).toNat)) 0).toNat =iX (cW p.bq x.outs[i]):=by rw [ea];exact qX hx
   erw [e1,qX hy];exact ae (ag3 (ct.ol.ok (Ct hx)) (ct.ol.ok (Ct hy))) aD
  refine ae q ?_;exact VB
 ·refine bj ah5 ?_;rw [hc];refine ae hj.diag (bh (ab ?_));erw [hc];rfl
 ·refine bj ah5 ?_;rw [hc];refine ae hj.diag (bm (ab ?_));erw [hc];rfl
 ·refine bj aw1 ?_;rw [hc];refine ae hj (ab ?_);erw [hc];rfl
theorem ag5(f:CE->Row)(g:Int->Row)(a:List CE)(b:cj):(ln (a.map f) != ln (b.map g))= !(a.length==b.length):=afA
theorem avx(f:PL->Row)(g:Int->Row)(a:List PL)(b:cj):(ln (a.map f) != ln (b.map g))= !(a.length==b.length):=afA
include ct hw hc hE in
theorem aPU{f:gp}(hf:f.Ok):∃b,∀{L D H A:aE},
 Ev Sm [aa (aZ 0 w),aa (fX f L D H A),K0 p lf,ay (aP ro),.aj 0 cn] (0,av b::iQ p ro lf cn):=by
 have jc:∀{L D H A:aE},bY aae [K0 p lf,ay (aP ro),.aj 0 cn,aa (aZ 0 w),aa (fX f L D H A)]
  (bif !(f.T==w.task)&&rU p f.T f.entry then(0,[K0 p lf,ay (aP ro),.aj 0 cn,aa (aZ 0 w),aa (fX f L D H A)])else(1,[aT,K0 p lf,ay (aP ro),.aj 0 cn,aa (aZ 0 w),aa (fX f L D H A)])):=by
  intro L D H A;refine bX aBI ?_;rw [hc];refine ax (c:=f.T==w.task) (λh=>ab (iW)) λh=>ae (Xt (lf:=lf) hc f.T f.entry) ?_;erw [hc];refine ax (c:= !rU p f.T f.entry) (λh2=>ab ?_) λh2=>ab ?_
  ·simp only [iy]at h2;rw [h,h2];rfl
  ·simp only [iS]at h2;rw [h,h2];rfl
 cases ha:(!(f.T==w.task)&&rU p f.T f.entry)with
 |false=>
  rw [ha]at jc;refine⟨false,λ{L D H A}=>bj ajI ?_⟩;exact apj
 |true=>
 rw [ha]at jc;obtain⟨ht,he⟩:=UG (bA _ _▸ha).2;generalize hx:H0 (dH p.tasks f.T).aJ f.entry=x;have hgt:=C6 ht;have L6:=afZ he;rw [hx]at L6;obtain⟨eT,HR,jg,ki⟩:=ct.ent _ (GQ ht) _ (adA he);rw [hx]at eT HR jg ki;have t1:ib f.T (p.tasks.map cA).length =true:=by rw [dW];exact ht
 have t2:ib f.entry ((dH p.tasks f.T).aJ.map nM).length =true:=by rw [dW];exact he
 have aYK:∀{L D H A:aE},bY Sa [K0 p lf,ay (aP ro),.aj 0 cn,aa (fX f L D H A),ic x]
  (bif (f.Ins.length==x.ins.length)&&(f.kS.length==x.outs.length)then(0,[K0 p lf,ay (aP ro),.aj 0 cn,aa (fX f L D H A),ic x])else(1,[aT,K0 p lf,ay (aP ro),.aj 0 cn,aa (fX f L D H A),ic x])):=by
  intro L D H A;refine bX aAZ ?_;rw [hc];refine ax (c:=ln (f.Ins.map aH) != ln (ints x.ins)) (λh=>ab ?_) λh=>ax (c:=ln (f.kS.map dc) != ln (ints x.outs)) (λh2=>ab ?_) λh2=>ab ?_
  ·rw [ag5]at h;simp only [iy]at h;rw [h];rfl
  ·rw [ag5]at h;rw [avx]at h2;simp only [iy,iS]at h h2;rw [h,h2];rfl
  ·rw [ag5]at h;rw [avx]at h2;simp only [iS]at h h2;rw [h,h2];rfl
 have C1:∀{L D H A:aE} (r:UO),_->Ev Sm [aa (aZ 0 w),aa (fX f L D H A),K0 p lf,ay (aP ro),.aj 0 cn] r:=λ{L D H A} r h=>by
  refine bj ajI ?_;rw [hc];refine ae jc (bh (az t1 (az (c:=ib f.entry ((gR (gA (p.tasks.map cA) f.T.toNat) 1).length)) (by rw [hgt];exact t2) ?_)));erw [hc];have hj:bY Sa [K0 p lf,ay (aP ro),.aj 0 cn,aa (fX f L D H A),aa [aw (gR (gA (gR (gA (p.tasks.map cA) f.T.toNat) 1) f.entry.toNat) 0),aw (gR (gA (gR (gA (p.tasks.map cA) f.T.toNat) 1) f.entry.toNat) 1)]] (bif (f.Ins.length==x.ins.length)&&(f.kS.length==x.outs.length)then(0,[K0 p lf,ay (aP ro),.aj 0 cn,aa (fX f L D H A),ic x])else(1,[aT,K0 p lf,ay (aP ro),.aj 0 cn,aa (fX f L D H A),ic x])):=by
   rw [hgt,show gR (cA (dH p.tasks f.T)) 1=(dH p.tasks f.T).aJ.map nM from rfl,L6];exact aYK
  refine ae hj ?_;exact h
 cases hlen:((f.Ins.length==x.ins.length)&&(f.kS.length==x.outs.length))with
 |false=>
  rw [hlen]at C1;refine⟨false,λ{L D H A}=>C1 _ (bm (ab ?_))⟩;exact qn
 |true=>
 rw [hlen]at C1;simp only [bA,iA]at hlen;obtain⟨X5,hn2⟩:=hlen;obtain⟨b1,zN⟩:=amL (m:=f.Ins.length) (P:=λi b=>∀(h:i<f.Ins.length) (h':i<x.ins.length),Ev Ea [aa (aZ 0 w),aa (aH f.Ins[i]),aw (ints [x.ins[i]]),aa (ep 1 2 p lf),ay (aP ro),.aj 0 cn] (0,av b::iQ p ro lf cn)) λi hi=>by
  have eJ:i<x.ins.length:=by omega
  obtain⟨s,b,g1,g3⟩:=Hy ct hw hc (lf:=lf) hE f.Ins[i] (hf.Ins.2 _ (cY hi));have ho:=eT x.ins[i] (cY eJ);exact⟨fitAll p s b [x.ins[i]],λ_ _=>Xp ct hc g1 (λh=>ao6) (one_le _) (λy hy=>by simp at hy;subst hy;exact ho)⟩
 have k1:=Hl (m:=f.Ins.length) (p:=λi=> !b1 i) (hit:=(0,aT::(iQ p ro lf cn++[aa (aZ 0 w),ic x]))) (done:=(1,iQ p ro lf cn++[aa (aZ 0 w),ic x])) (LF:=λi N m=>R5 (FU CX EE N) N m [bR (f.Ins.map aH),iI (ln (f.Ins.map aH)),iI (i:Int),K0 p lf,ay (aP ro),.aj 0 cn,aa (aZ 0 w),ic x])
  (aY ai3 (au dw (ab (EB))))
  λi hi r q1 q2=>aY ai3<|aV (cZ hi)<|az (cw hi)<|az (cw (f:=λn=>[iI n]) (l:=x.ins) (by omega))<|by
   have eJ:i<x.ins.length:=by omega
   rw [hc,vW hi,ix hi hf.Ins.1];have h1:=zN i hi hi eJ;rw [show ints [x.ins[i]]=[[iI (gI (gA (gR [aw (ints x.ins),aw (ints x.outs)] 0) ((i:Int).toNat)) 0)]]by
    rw [show gA (gR [aw (ints x.ins),aw (ints x.outs)] 0) ((i:Int).toNat)=[iI x.ins[i]]from gf eJ];rfl]at h1
   refine ae h1 ?_;exact VB
 obtain⟨b2,im⟩:=amL (m:=f.kS.length) (P:=λi b=>∀(h:i<f.kS.length) (h':i<x.outs.length),
  (∀r,(b=false->(0,aT::(iQ p ro lf cn++[aa (aZ 0 w),ic x]))=r)->(b=true->bS Jg [c7 (f.kS.map dc),iI (ln (f.kS.map dc)),iI ((i+1:Nat):Int),K0 p lf,ay (aP ro),.aj 0 cn,aa (aZ 0 w),ic x] r)->
    bS Jg [c7 (f.kS.map dc),iI (ln (f.kS.map dc)),iI (i:Int),K0 p lf,ay (aP ro),.aj 0 cn,aa (aZ 0 w),ic x] r)) λi hi=>by
  have eJ:i<x.outs.length:=by omega
  have ho:=HR x.outs[i] (cY eJ);obtain⟨l,b,h1,h3⟩:=plE ct hw hc (lf:=lf) hE (hf.kS.2 _ (cY hi));have arK:aF Nw 0 (gA (f.kS.map dc) ((i:Int).toNat))=dc f.kS[i]:=EG;cases b with
  |false=>
   refine⟨false,λ_ _ r r1 _=>aY Zw (aV (cZ hi) (az (cw hi) ?_))⟩;rw [hc,arK];refine ae h1 ?_;erw [hc];exact bh (ab (r1 rfl))
  |true=>
   obtain⟨_,_,hp⟩:=h3 rfl;have iJ:=aN1 ct (w:=w) hc (lf:=lf) eJ ho hp.len hp.mX;refine⟨!(l.any λo=> !zm (cW p.bq x.outs[i]) (cW p.bq o)),λ_ _ r r1 r2=>aY Zw (aV (cZ hi) (az (cw hi) ?_))⟩
   ·rw [hc,arK,ix hi hf.kS.1];refine ae h1 ?_;erw [hc];refine bm (ae iJ ?_);erw [hc];exact ax (c:=l.any λo=> !zm (cW p.bq x.outs[i]) (cW p.bq o)) (λh=>ab (r1 (iW))) λh=>r2 (iW)
 have k2:=Hl (m:=f.kS.length) (p:=λi=> !b2 i) (hit:=(0,aT::(iQ p ro lf cn++[aa (aZ 0 w),ic x]))) (done:=(1,iQ p ro lf cn++[aa (aZ 0 w),ic x])) (LF:=λi N m=>Jg (FU CX EE N) N m [c7 (f.kS.map dc),iI (ln (f.kS.map dc)),iI (i:Int),K0 p lf,ay (aP ro),.aj 0 cn,aa (aZ 0 w),ic x])
  (aY Zw (au dw (ab (EB))))
  λi hi r q1 q2=>im i hi hi (by omega) r (λh=>q1 (iW)) λh=>q2 (iW)
 generalize (List.range f.Ins.length).any (λi=> !b1 i)=a1 at k1;generalize (List.range f.kS.length).any (λi=> !b2 i)=a2 at k2;have aYJ:∀{L D H A:aE},bY Z0 [K0 p lf,ay (aP ro),.aj 0 cn,aa (aZ 0 w),aa (fX f L D H A),ic x]
  (bif a1 then(1,[aT,K0 p lf,ay (aP ro),.aj 0 cn,aa (aZ 0 w),aa (fX f L D H A),ic x])else(0,[K0 p lf,ay (aP ro),.aj 0 cn,aa (aZ 0 w),aa (fX f L D H A),ic x])):=by
  intro L D H A;refine bX aAY ?_;rw [hc];refine ae k1.diag ?_;cases a1 with
  |true=>exact Vk
  |false=>exact Ht
 refine⟨!a1&& !a2,λ{L D H A}=>C1 _ (bh ?_)⟩
 ·simp only [bT];erw [hc];refine ae aYJ ?_;cases a1 with
  |true=>exact Ht
  |false=>
   refine bh ?_;simp only [bM];erw [hc];refine ae k2.diag ?_;cases a2 with
   |true=>exact Vk
   |false=>exact Ht
end
end Go.Proofs.B.C
namespace Go.ah
def EV{p:Prop}(h:p:=by rw [DG]at h;simp only [iy]at h;rw [h]):p:=h
def wW{p:Prop}(h:p:=by rw [h,h2];rfl):p:=h
end Go.ah
namespace Go.ah
def Uu:=@Bool.and_assoc
end Go.ah
namespace Go.Proofs.B.C
open Go Go.ah
section
variable{a b:Bool}{l:aE}
structure XF where
 N:Int
 O:Int
 T:Int
 P:Int
 entry:Int
 In:Bool
 rev:Bool
 sC:Bool
 els:Bool
 yK:Bool
 mode:Int
def xz:XF:=⟨0,0,0,0,0,false,false,false,false,false,0⟩
def _root_.Go.Proofs.B.gp.x(f:gp):XF:=⟨f.N,f.O,f.T,f.P,f.entry,f.In,f.rev,f.sC,f.els,f.yK,f.mode⟩
def fz(k:Int)(x:XF):gp:=⟨k,x.N,x.O,x.T,x.P,x.entry,x.In,x.rev,x.sC,x.els,x.yK,x.mode,[],[],[],[],[]⟩
abbrev flat(k:Int)(x:XF):aq:=fX (fz k x) [] [] [] []
theorem DG:(ln l != 0)= !l.isEmpty:=by cases l<;>simp [ln];omega
theorem FR(h:l.isEmpty=true):decide ((0:Int)<ln l)=false:=by
 have:l=[]:=mU;subst this;rfl
theorem eqE(l:aE):Ev RB [bR l,bR []] (0,[av l.isEmpty]):=by
 refine bj axt (ax (c:=ln l != 0) (λh=>ab ?_) λh=> ?_)
 ·exact EV
 ·rw [DG]at h;simp only [iS]at h;rw [h];exact ae (E.diag (f:=λN m=>Rx (FU CX EE N) N m _) (aY axe (au (FR h) aD))) aD
theorem eqP(l:aE):Ev Rz [c7 l,c7 []] (0,[av l.isEmpty]):=by
 refine bj axo (ax (c:=ln l != 0) (λh=>ab ?_) λh=> ?_)
 ·exact EV
 ·rw [DG]at h;simp only [iS]at h;rw [h];exact ae (E.diag (f:=λN m=>Rs (FU CX EE N) N m _) (aY aw6 (au (FR h) aD))) aD
theorem eqS(l:aE):Ev YR [dv l,dv []] (0,[av l.isEmpty]):=by
 refine bj axs (ax (c:=ln l != 0) (λh=>ab ?_) λh=> ?_)
 ·exact EV
 ·rw [DG]at h;simp only [iS]at h;rw [h];exact ae (E.diag (f:=λN m=>Rv (FU CX EE N) N m _) (aY axd (au (FR h) aD))) aD
theorem eqI(l:aE):Ev aaj [aw l,aw []] (0,[av l.isEmpty]):=by
 refine bj aCp (ax (c:=ln l != 0) (λh=>ab ?_) λh=> ?_)
 ·exact EV
 ·rw [DG]at h;simp only [iS]at h;rw [h];exact ae (E.diag (f:=λN m=>R4 (FU CX EE N) N m _) (aY aAf (au (FR h) aD))) aD
theorem eqD(l:aE):Ev YM [fO l,fO []] (0,[av l.isEmpty]):=by
 refine bj axj (ax (c:=ln l != 0) (λh=>ab ?_) λh=> ?_)
 ·exact EV
 ·rw [DG]at h;simp only [iS]at h;rw [h];exact ae (E.diag (f:=λN m=>Rq (FU CX EE N) N m _) (aY awZ (au (FR h) aD))) aD
theorem eqH(l:aE):Ev YG [fV l,fV []] (0,[av l.isEmpty]):=by
 refine bj aw0 (ax (c:=ln l != 0) (λh=>ab ?_) λh=> ?_)
 ·exact EV
 ·rw [DG]at h;simp only [iS]at h;rw [h];exact ae (E.diag (f:=λN m=>Rl (FU CX EE N) N m _) (aY awK (au (FR h) aD))) aD
theorem eqA(l:aE):Ev YQ [fy l,fy []] (0,[av l.isEmpty]):=by
 refine bj axp (ax (c:=ln l != 0) (λh=>ab ?_) λh=> ?_)
 ·exact EV
 ·rw [DG]at h;simp only [iS]at h;rw [h];exact ae (E.diag (f:=λN m=>Rt (FU CX EE N) N m _) (aY aw7 (au (FR h) aD))) aD
theorem XJ(l:aE):Ev amd [bR l,bR []] (0,[av l.isEmpty]):=by
 refine bj aIU (ax (c:=ln l != 0) (λh=>ab ?_) λh=> ?_)
 ·exact EV
 ·rw [DG]at h;simp only [iS]at h;rw [h];exact ae (E.diag (f:=λN m=>SY (FU CX EE N) N m _) (aY aGr (au (FR h) aD))) aD
def bb(a b:Bool):Bool:=bif a==b then true else false
def xB(k:Int)(f:XF)(k':Int)(x:XF):Bool:=
 (k==k')&&((f.N==x.N)&&((f.O==x.O)&&((f.T==x.T)&&((f.P==x.P)&&((f.entry==x.entry)&&((f.mode==x.mode)&&((f.In==x.In)&&((f.rev==x.rev)&&((f.sC==x.sC)&&((f.els==x.els)&&(f.yK==x.yK)))))))))))
def lB(f:gp)(L D H A:aE):Bool:=
 (f.E.map aH).isEmpty &&((f.Ins.map aH).isEmpty &&((ints f.Ts).isEmpty &&((f.To.map dc).isEmpty &&((f.kS.map dc).isEmpty &&(L.isEmpty&&(D.isEmpty&&(H.isEmpty&&A.isEmpty)))))))
def H6(f:gp)(L D H A:aE)(k':Int)(x:XF):Bool:=xB f.kind f.x k' x&&lB f L D H A
theorem XP(h:(!(a==b))=true):(a==b)=false:=mU
theorem BW(h:(!(a==b))=false):(a==b)=true:=mU
section
variable (f:gp) (L D H A:aE) (k:Int) (x:XF)
def uF(k:Int)(f:XF)(k':Int)(x:XF):Bool:=(k==k')&&((f.N==x.N)&&((f.O==x.O)&&((f.T==x.T)&&((f.P==x.P)&&((f.entry==x.entry)&&(f.mode==x.mode))))))
def xd(f x:XF):Bool:=(f.In==x.In)&&((f.rev==x.rev)&&((f.sC==x.sC)&&((f.els==x.els)&&(f.yK==x.yK))))
theorem aN7{k k':Int}{f x:XF}:xB k f k' x=(uF k f k' x&&xd f x):=by unfold xB uF xd;simp only [Uu]
theorem aQr:bY aau [aa (fX f L D H A),aa (flat k x)] (0,[av (!uF f.kind f.x k x),aa (fX f L D H A),aa (flat k x)]):=by
 refine bX aCo ?_;refine ax (c:=f.kind != k) (λh=>ab (by simp only [uF,pY h];rfl)) λh=>ax (c:=f.N != x.N) (λh2=>ab ?_) λh2=>ax (c:=f.O != x.O) (λh3=>ab ?_) λh3=>ax (c:=f.T != x.T) (λh4=>ab ?_) λh4=>ax (c:=f.P != x.P) (λh5=>ab ?_) λh5=>ax (c:=f.entry != x.entry) (λh6=>ab ?_) λh6=>ab ?_
 ·have:uF f.kind f.x k x=false:=by unfold uF gp.x;rw [fb h,pY h2];rfl
  exact iV
 ·have:uF f.kind f.x k x=false:=by unfold uF gp.x;rw [fb h,fb h2,pY h3];rfl
  exact iV
 ·have:uF f.kind f.x k x=false:=by unfold uF gp.x;rw [fb h,fb h2,fb h3,pY h4];rfl
  exact iV
 ·have:uF f.kind f.x k x=false:=by unfold uF gp.x;rw [fb h,fb h2,fb h3,fb h4,pY h5];rfl
  exact iV
 ·have:uF f.kind f.x k x=false:=by unfold uF gp.x;rw [fb h,fb h2,fb h3,fb h4,fb h5,pY h6];rfl
  exact iV
 ·have:uF f.kind f.x k x=(f.mode==x.mode):=by unfold uF gp.x;rw [fb h,fb h2,fb h3,fb h4,fb h5,fb h6];rfl
  exact iV
theorem aOj:bY aag [aa (fX f L D H A),aa (flat k x)] (0,[av (!xd f.x x),aa (fX f L D H A),aa (flat k x)]):=by
 refine bX aBK ?_;refine ax (c:= !(f.In==x.In)) (λh=>ab ?_) λh=>ax (c:= !(f.rev==x.rev)) (λh2=>ab ?_) λh2=>ax (c:= !(f.sC==x.sC)) (λh3=>ab ?_) λh3=>ax (c:= !(f.els==x.els)) (λh4=>ab ?_) λh4=>ab ?_
 ·have:xd f.x x=false:=by unfold xd gp.x;rw [XP h];rfl
  exact iV
 ·have:xd f.x x=false:=by unfold xd gp.x;rw [BW h,XP h2];rfl
  exact iV
 ·have:xd f.x x=false:=by unfold xd gp.x;rw [BW h,BW h2,XP h3];rfl
  exact iV
 ·have:xd f.x x=false:=by unfold xd gp.x;rw [BW h,BW h2,BW h3,XP h4];rfl
  exact iV
 ·have:xd f.x x=(f.yK==x.yK):=by unfold xd gp.x;rw [BW h,BW h2,BW h3,BW h4];rfl
  exact iV
theorem aOi:bY aaf [aa (fX f L D H A),aa (flat k x)] (0,[av (!((f.E.map aH).isEmpty &&((f.Ins.map aH).isEmpty &&(ints f.Ts).isEmpty))),aa (fX f L D H A),aa (flat k x)]):=by
 refine bX aBJ ?_;refine ae (eqE (f.E.map aH)) (ax (c:= !(f.E.map aH).isEmpty) (λh=>ab ?_) λh=>ae (eqE (f.Ins.map aH)) (ax (c:= !(f.Ins.map aH).isEmpty) (λh2=>ab ?_) λh2=>ae (eqI (ints f.Ts)) (ab ?_)))
 ·simp only [iy]at h;rw [h];rfl
 ·simp only [iy,iS]at h h2;rw [h,h2];rfl
 ·simp only [iS]at h h2;rw [h,h2];rfl
def FW(f:gp)(L:aE):Bool:=(f.To.map dc).isEmpty &&((f.kS.map dc).isEmpty &&L.isEmpty)
theorem sm6:bY aaF [aa (fX f L D H A),aa (flat k x)] (bif xB f.kind f.x k x&&(((f.E.map aH).isEmpty &&((f.Ins.map aH).isEmpty &&(ints f.Ts).isEmpty))&&FW f L)then(0,[aa (fX f L D H A),aa (flat k x)])else(1,[aT,aa (fX f L D H A),aa (flat k x)])):=by
 refine bX aDk ?_;rw [aN7];refine ae (aQr f L D H A k x) (ax (c:= !uF f.kind f.x k x) (λh=>ab ?_) λh=>ae (aOj f L D H A k x) (ax (c:= !xd f.x x) (λh2=>ab ?_) λh2=>ae (aOi f L D H A k x) (ax (c:= !((f.E.map aH).isEmpty &&((f.Ins.map aH).isEmpty &&(ints f.Ts).isEmpty))) (λh3=>ab ?_) λh3=>ae (eqP (f.To.map dc)) (ax (c:= !(f.To.map dc).isEmpty) (λh4=>ab ?_) λh4=>ae (eqP (f.kS.map dc)) (ax (c:= !(f.kS.map dc).isEmpty) (λh5=>ab ?_) λh5=>ae (eqS L) (ax (c:= !L.isEmpty) (λh6=>ab ?_) λh6=>ab ?_))))))
 ·simp only [iy]at h;rw [h];rfl
 ·simp only [iy,iS]at h h2;rw [h,h2];rfl
 ·simp only [iy,iS]at h h2 h3;rw [h,h2,h3];rfl
 ·simp only [iy,iS]at h h2 h3 h4;unfold FW;rw [h,h2,h3,h4];rfl
 ·simp only [iy,iS]at h h2 h3 h4 h5;unfold FW;rw [h,h2,h3,h4,h5];rfl
 ·simp only [iy,iS]at h h2 h3 h4 h5 h6;unfold FW;rw [h,h2,h3,h4,h5,h6];rfl
 ·simp only [iS]at h h2 h3 h4 h5 h6;unfold FW;rw [h,h2,h3,h4,h5,h6];rfl
theorem aM8:H6 f L D H A k x=((xB f.kind f.x k x&&(((f.E.map aH).isEmpty &&((f.Ins.map aH).isEmpty &&(ints f.Ts).isEmpty))&&FW f L))&&(D.isEmpty&&(H.isEmpty&&A.isEmpty))):=by
 unfold H6 lB FW;simp only [Uu]
theorem smC:Ev Nj [aa (fX f L D H A),aa (flat k x)] (0,[av (H6 f L D H A k x)]):=by
 refine bj aFK (ae (sm6 f L D H A k x) ?_);rw [aM8];cases xB f.kind f.x k x&&(((f.E.map aH).isEmpty &&((f.Ins.map aH).isEmpty &&(ints f.Ts).isEmpty))&&FW f L)with
 |false=>exact rI
 |true=>
  refine bh ?_;simp only [bT];refine(ae (eqD D) (ax (c:=D.isEmpty) (λh=>ae (eqH H) (ax (c:=H.isEmpty) (λh2=>ae (eqA A) (ab ?_)) λh2=>ab ?_)) λh=>ab ?_))
  ·exact wW
  ·exact wW
  ·exact iW
theorem aOO:Ev zV [aa (fX f L D H A)] (0,[av (H6 f L D H A 1 xz)]):=
 bj aI0 (ae (smC f L D H A 1 xz) aD)
end
end
end Go.Proofs.B.C
namespace Go.ah
def aqQ{p:Prop}(h:p:=by
 cases h1:k==12 with
 |true=>exact .inl (eq_of_beq h1)
 |false=>rw [h1]at h;exact .inr (eq_of_beq h)):p:=h
def G1{p:Prop}(h:p:=by rw [h1]at h;cases h):p:=h
def EA{p:Prop}(h:p:=by rw [h];exact aD):p:=h
end Go.ah
namespace Go.Proofs.B.C
open Go Go.ah
section
variable{k:Int}
def eS(k:Int):Int:=bif k==2 then 1 else bif k==4 then 1 else bif k==5 then 1 else bif k==6 then 2 else bif k==11 then 1 else bif k==15 then 1 else 0
def toS(k:Int):Int:=bif k==2 then 1 else bif k==12 then 1 else bif k==13 then 1 else bif k==14 then 1 else 0
def lS(k:Int):Int:=bif k==4 then 2 else bif k==5 then 1 else bif k==6 then 1 else bif k==7 then 1 else bif k==9 then 1 else bif k==16 then 2 else bif k==17 then 3 else bif k==18 then 2 else bif k==19 then 1 else bif k==20 then 1 else 0
def eF(k:Int):Bool:=bif k==16 then true else bif k==17 then true else false
def lF(k:Int):Bool:=bif k==3 then true else false
def vF(k:Int):Nat:=bif k==9 then 1 else bif k==16 then 2 else bif k==19 then 3 else bif k==22 then 4 else 0
def Qx(k:Int):Bool:=bif k==9 then true else bif k==19 then true else bif k==22 then true else false
def BU(k:Int):Bool:=bif k==1 then true else bif k==2 then true else bif k==3 then true else bif k==4 then true else bif k==5 then true else bif k==6 then true else bif k==7 then true else bif k==8 then true else bif k==9 then true else bif k==10 then true else bif k==11 then true else bif k==12 then true else bif k==13 then true else bif k==14 then true else bif k==15 then true else bif k==16 then true else bif k==17 then true else bif k==18 then true else bif k==19 then true else bif k==20 then true else bif k==21 then true else bif k==22 then true else false
def Mh(k e:Int):Int:=bif eF k then e else eS k
def Yp(k:Int):Int:=bif eF k then-1 else eS k
def FV(k l:Int):Int:=bif lF k then l else lS k
def Qy(k:Int):Int:=bif lF k then-1 else lS k
def xS(f:gp)(k:Int):XF:=bif k==6 then{xz with O:=f.O,rev:=f.rev}else bif k==7 then{xz with N:=f.N}else bif k==8 then{xz with N:=f.N}else bif k==10 then{xz with N:=f.N}else bif k==14 then bif f.In then{xz with P:=f.P,entry:=f.entry,In:=f.In}else{xz with entry:=f.entry,In:=f.In}else bif k==15 then{xz with sC:=f.sC}else bif k==16 then{xz with T:=f.T,entry:=f.entry,mode:=f.mode}else bif k==17 then{xz with P:=f.P,entry:=f.entry,mode:=f.mode}else bif k==18 then{xz with entry:=f.entry}else bif k==19 then{xz with els:=f.els}else bif k==20 then{xz with P:=f.P}else bif k==21 then{xz with T:=f.T,entry:=f.entry,yK:=f.yK}else xz
abbrev kTs:AV:= .str (⟨#[116,115]⟩:ByteArray)
abbrev kDe:AV:= .str (⟨#[100,101,99,108,115]⟩:ByteArray)
abbrev kCa:AV:= .str (⟨#[99,97,108,108]⟩:ByteArray)
abbrev kAl:AV:= .str (⟨#[97,108,116,115]⟩:ByteArray)
def mpE(c:Nat):List (AV×AV):=bif c==1 then [(kTs,c5),(kDe,c5)]else bif c==2 then [(kCa,c5)]else bif c==3 then [(kAl,c5)]else bif c==4 then [(kTs,c5)]else []
abbrev rO(a:Nat)(k:Int)(x:XF):aq:=[cu k,iI x.N,iI x.O,iI x.T,iI x.P,iI x.entry,av x.In,av x.rev,av x.sC,av x.els,av x.yK,cu x.mode,.ak a,.ak (a+1),.ak (a+2),.ak (a+3),.ak (a+4),.ak (a+5),.ak (a+6),.ak (a+7),.ak (a+8)]
abbrev e9:aq:=[bR [],bR [],c7 [],c7 [],aw [],dv [],fO [],fV [],fy []]
def zH(k:Int):Bool:=bif k==8 then true else k==10
def zI(k:Int):Bool:=bif k==12 then true else k==13
theorem kLC(k:Int):bY ZP [cu k] (0,[av (zH k)]):=
 bX aAr (ax (λh=>ab (by simp only [zH,h,bT])) λh=>ab (by simp only [zH,h,bM]))
theorem kLR(k:Int):bY Z9 [cu k] (0,[av (zH k)]):=
 bX aBD (ax (λh=>ab (by simp only [zH,h,bT])) λh=>ab (by simp only [zH,h,bM]))
theorem kGC(k:Int):bY Zt [cu k] (0,[av (zI k)]):=
 bX azl (ax (λh=>ab (by simp only [zI,h,bT])) λh=>ab (by simp only [zI,h,bM]))
theorem kGR(k:Int):bY ZF [cu k] (0,[av (zI k)]):=
 bX aAh (ax (λh=>ab (by simp only [zI,h,bT])) λh=>ab (by simp only [zI,h,bM]))
theorem arf(h:zH k=true):k=8∨k=10:=by
 unfold zH at h;cases h1:k==8 with
 |true=>exact .inl (eq_of_beq h1)
 |false=>rw [h1]at h;exact .inr (eq_of_beq h)
theorem arh(h:zI k=true):k=12∨k=13:=by
 unfold zI at h;exact aqQ
theorem VG(h:zH k=false):(k==8)=false/\(k==10)=false:=by
 unfold zH at h;cases h1:k==8 with
 |true=>exact G1
 |false=>rw [h1]at h;exact⟨rfl,h⟩
theorem VH(h:zI k=false):(k==12)=false/\(k==13)=false:=by
 unfold zI at h;cases h1:k==12 with
 |true=>exact G1
 |false=>rw [h1]at h;exact⟨rfl,h⟩
section
variable (f:gp) (L D H A:aE)
abbrev SF:AV:= aa (fX f L D H A)
theorem aOo:E (λN _=>aaX (FU CX EE N) N ([iI 0,iI 0,iI 0,SF f L D H A,aa (rO 3 f.kind xz),.aj 0 (bz [])]++e9))
 (bif BU f.kind then(0,[iI (Mh f.kind (ln (f.E.map aH))),iI (toS f.kind),iI (FV f.kind (ln L)),SF f L D H A,aa (rO 3 f.kind (xS f f.kind)),.aj 0 (bz (mpE (vF f.kind)))]++e9)else(1,[aT,SF f L D H A,aa (rO 3 f.kind xz),.aj 0 (bz [])]++e9)):=by
 refine bX aEj ?_;refine ax (c:=f.kind==1) (λh1=> ?_) λh1=>ax (c:=f.kind==2) (λh2=> ?_) λh2=>ax (c:=f.kind==3) (λh3=> ?_) λh3=>ax (c:=f.kind==4) (λh4=> ?_) λh4=>ax (c:=f.kind==5) (λh5=> ?_) λh5=>ax (c:=f.kind==6) (λh6=> ?_) λh6=>ax (c:=f.kind==7) (λh7=> ?_) λh7=>ae (kLC f.kind) (ax (c:=zH f.kind) (λhL=> ?_) λhL=>ax (c:=f.kind==9) (λh9=> ?_) λh9=>ax (c:=f.kind==11) (λqL=> ?_) λqL=>ae (kGC f.kind) (ax (c:=zI f.kind) (λhC=> ?_) λhC=>ax (c:=f.kind==14) (λqK=>ax (c:=f.In) (λg=> ?_) λg=> ?_) λqK=>ax (c:=f.kind==15) (λyH=> ?_) λyH=>ax (c:=f.kind==16) (λqJ=> ?_) λqJ=>ax (c:=f.kind==17) (λse=> ?_) λse=>ax (c:=f.kind==18) (λkm=> ?_) λkm=>ax (c:=f.kind==19) (λwE=> ?_) λwE=>ax (c:=f.kind==20) (λot=> ?_) λot=>ax (c:=f.kind==21) (λwD=> ?_) λwD=>ax (c:=f.kind==22) (λvM=> ?_) λvM=> ?_))
 ·rw [eq_of_beq h1];exact aD
 ·rw [eq_of_beq h2];exact aD
 ·rw [eq_of_beq h3];exact aD
 ·rw [eq_of_beq h4];exact aD
 ·rw [eq_of_beq h5];exact aD
 ·rw [eq_of_beq h6];exact aD
 ·rw [eq_of_beq h7];exact aD
 ·rcases arf hL with h|h
  ·exact EA
  ·exact EA
 ·rw [eq_of_beq h9];exact aD
 ·rw [eq_of_beq qL];exact aD
 ·rcases arh hC with h|h
  ·exact EA
  ·exact EA
 ·rw [eq_of_beq qK,show xS f 14={xz with P:=f.P,entry:=f.entry,In:=f.In}by show(bif f.In then _ else _)=_;rw [g];rfl];exact aD
 ·rw [eq_of_beq qK,show xS f 14={xz with entry:=f.entry,In:=f.In}by show(bif f.In then _ else _)=_;rw [g];rfl];exact aD
 ·rw [eq_of_beq yH];exact aD
 ·rw [eq_of_beq qJ];exact aD
 ·rw [eq_of_beq se];exact aD
 ·rw [eq_of_beq km];exact aD
 ·rw [eq_of_beq wE];exact aD
 ·rw [eq_of_beq ot];exact aD
 ·rw [eq_of_beq wD];exact aD
 ·rw [eq_of_beq vM];exact aD
 ·rw [show BU f.kind=false by unfold BU;rw [h1,h2,h3,h4,h5,h6,h7,(VG hL).1,h9,(VG hL).2,qL,(VH hC).1,(VH hC).2,qK,yH,qJ,se,km,wE,ot,wD,vM];rfl];exact aD
theorem aYE:E (λN _=>abw (FU CX EE N) N ([iI 0,iI 0,iI 0,aT,SF f L D H A,aa (rO 2 f.kind xz)]++e9))
 (bif BU f.kind then(0,[iI (Yp f.kind),iI (toS f.kind),iI (Qy f.kind),av (Qx f.kind),SF f L D H A,aa (rO 2 f.kind (xS f f.kind))]++e9)else(1,[aT,SF f L D H A,aa (rO 2 f.kind xz)]++e9)):=by
 refine bX aGz ?_;refine ax (c:=f.kind==1) (λh1=> ?_) λh1=>ax (c:=f.kind==2) (λh2=> ?_) λh2=>ax (c:=f.kind==3) (λh3=> ?_) λh3=>ax (c:=f.kind==4) (λh4=> ?_) λh4=>ax (c:=f.kind==5) (λh5=> ?_) λh5=>ax (c:=f.kind==6) (λh6=> ?_) λh6=>ax (c:=f.kind==7) (λh7=> ?_) λh7=>ae (kLR f.kind) (ax (c:=zH f.kind) (λhL=> ?_) λhL=>ax (c:=f.kind==9) (λh9=> ?_) λh9=>ax (c:=f.kind==11) (λqL=> ?_) λqL=>ae (kGR f.kind) (ax (c:=zI f.kind) (λhC=> ?_) λhC=>ax (c:=f.kind==14) (λqK=>ax (c:=f.In) (λg=> ?_) λg=> ?_) λqK=>ax (c:=f.kind==15) (λyH=> ?_) λyH=>ax (c:=f.kind==16) (λqJ=> ?_) λqJ=>ax (c:=f.kind==17) (λse=> ?_) λse=>ax (c:=f.kind==18) (λkm=> ?_) λkm=>ax (c:=f.kind==19) (λwE=> ?_) λwE=>ax (c:=f.kind==20) (λot=> ?_) λot=>ax (c:=f.kind==21) (λwD=> ?_) λwD=>ax (c:=f.kind==22) (λvM=> ?_) λvM=> ?_))
 ·rw [eq_of_beq h1];exact aD
 ·rw [eq_of_beq h2];exact aD
 ·rw [eq_of_beq h3];exact aD
 ·rw [eq_of_beq h4];exact aD
 ·rw [eq_of_beq h5];exact aD
 ·rw [eq_of_beq h6];exact aD
 ·rw [eq_of_beq h7];exact aD
 ·rcases arf hL with h|h
  ·exact EA
  ·exact EA
 ·rw [eq_of_beq h9];exact aD
 ·rw [eq_of_beq qL];exact aD
 ·rcases arh hC with h|h
  ·exact EA
  ·exact EA
 ·rw [eq_of_beq qK,show xS f 14={xz with P:=f.P,entry:=f.entry,In:=f.In}by show(bif f.In then _ else _)=_;rw [g];rfl];exact aD
 ·rw [eq_of_beq qK,show xS f 14={xz with entry:=f.entry,In:=f.In}by show(bif f.In then _ else _)=_;rw [g];rfl];exact aD
 ·rw [eq_of_beq yH];exact aD
 ·rw [eq_of_beq qJ];exact aD
 ·rw [eq_of_beq se];exact aD
 ·rw [eq_of_beq km];exact aD
 ·rw [eq_of_beq wE];exact aD
 ·rw [eq_of_beq ot];exact aD
 ·rw [eq_of_beq wD];exact aD
 ·rw [eq_of_beq vM];exact aD
 ·rw [show BU f.kind=false by unfold BU;rw [h1,h2,h3,h4,h5,h6,h7,(VG hL).1,h9,(VG hL).2,qL,(VH hC).1,(VH hC).2,qK,yH,qJ,se,km,wE,ot,wD,vM];rfl];exact aD
def vu(f:gp)(L:aE):Bool:=xB f.kind f.x f.kind (xS f f.kind)&&((ln (f.E.map aH)==Mh f.kind (ln (f.E.map aH)))&&((ln (f.To.map dc)==toS f.kind)&&(ln L==FV f.kind (ln L))))
theorem aOn:E (λN _=>aaW (FU CX EE N) N ([iI (Mh f.kind (ln (f.E.map aH))),iI (toS f.kind),iI (FV f.kind (ln L)),SF f L D H A,aa (rO 3 f.kind f.x),aa (rO 12 f.kind (xS f f.kind))]++(e9++e9)))
 (bif vu f L then(0,[SF f L D H A,aa (rO 3 f.kind f.x),aa (rO 12 f.kind (xS f f.kind))]++(e9++e9))else(1,[aT,SF f L D H A,aa (rO 3 f.kind f.x),aa (rO 12 f.kind (xS f f.kind))]++(e9++e9))):=by
 have hs:=smC (fz f.kind f.x) [] [] [] [] f.kind (xS f f.kind);rw [show H6 (fz f.kind f.x) [] [] [] [] f.kind (xS f f.kind)=xB f.kind f.x f.kind (xS f f.kind)by unfold H6;rw [show lB (fz f.kind f.x) [] [] [] []=true from rfl,Uv];rfl]at hs;refine bX aEi ?_;refine ae hs (ax (c:= !xB f.kind f.x f.kind (xS f f.kind)) (λh=>ab ?_) λh=>ax (c:=ln (f.E.map aH) != Mh f.kind (ln (f.E.map aH))) (λh2=>ab ?_) λh2=>ax (c:=ln (f.To.map dc) != toS f.kind) (λh3=>ab ?_) λh3=>ax (c:=ln L != FV f.kind (ln L)) (λh4=>ab ?_) λh4=>ab ?_)
 ·have:vu f L=false:=by unfold vu;simp only [iy]at h;rw [h];rfl
  exact iV
 ·have:vu f L=false:=by unfold vu;rw [pY h2];simp
  exact iV
 ·have:vu f L=false:=by unfold vu;rw [pY h3];simp
  exact iV
 ·have:vu f L=false:=by unfold vu;rw [pY h4];simp
  exact iV
 ·have:vu f L=true:=by unfold vu;simp only [iS]at h;rw [h,fb h2,fb h3,fb h4];rfl
  exact iV
def Qo(f:gp)(D H A:aE)(c:Nat):Bool:=
 (bif c==2 then true else aU (ln (f.Ins.map aH)+ln (f.kS.map dc))==0)&&((bif (c==1||c==4)then true else ln (ints f.Ts)==0)&&((bif c==1 then true else aU (ln D+ln H)==0)&&(bif c==3 then true else ln A==0)))
theorem aNt(k:Int):vF k=0∨vF k=1∨vF k=2∨vF k=3∨vF k=4:=by
 unfold vF;cases k==9<;>cases k==16<;>cases k==19<;>cases k==22<;>simp
theorem shC:Ev Ti [SF f L D H A] (0,[av (BU f.kind&&(vu f L&&Qo f D H A (vF f.kind)))]):=by
 refine bj aIh (ae (aOo f L D H A) ?_);cases BU f.kind with
 |false=>exact rI
 |true=>
  refine bh ?_;simp only [bT];refine ae (aOn f L D H A) ?_;cases vu f L with
  |false=>exact rI
  |true=>
   refine bh ?_;simp only [bT,wM];unfold Qo;rcases aNt f.kind with h|h|h|h|h<;>rw [h]
   ·refine ax (c:=aU (ln (f.Ins.map aH)+ln (f.kS.map dc))==0) (λa=>ax (c:=ln (ints f.Ts)==0) (λb=>ax (c:=aU (ln D+ln H)==0) (λc=>ab ?_) λc=>ab ?_) λb=>ab ?_) λa=>ab ?_
    ·rw [a,b,c];rfl
    ·rw [a,b,c];rfl
    ·rw [a,b];rfl
    ·rw [a];rfl
   ·refine ax (c:=aU (ln (f.Ins.map aH)+ln (f.kS.map dc))==0) (λa=>bh (bh (ab ?_))) λa=>ab ?_
    ·rw [a];rfl
    ·rw [a];rfl
   ·refine bh (ax (c:=ln (ints f.Ts)==0) (λb=>ax (c:=aU (ln D+ln H)==0) (λc=>ab ?_) λc=>ab ?_) λb=>ab ?_)
    ·rw [b,c];rfl
    ·rw [b,c];rfl
    ·rw [b];rfl
   ·refine ax (c:=aU (ln (f.Ins.map aH)+ln (f.kS.map dc))==0) (λa=>ax (c:=ln (ints f.Ts)==0) (λb=>ax (c:=aU (ln D+ln H)==0) (λc=>bh (ab ?_)) λc=>ab ?_) λb=>ab ?_) λa=>ab ?_
    ·rw [a,b,c];rfl
    ·rw [a,b,c];rfl
    ·rw [a,b];rfl
    ·rw [a];rfl
   ·refine ax (c:=aU (ln (f.Ins.map aH)+ln (f.kS.map dc))==0) (λa=>bh (ax (c:=aU (ln D+ln H)==0) (λc=>ab ?_) λc=>ab ?_)) λa=>ab ?_
    ·rw [a,c];rfl
    ·rw [a,c];rfl
    ·rw [a];rfl
end
end
end Go.Proofs.B.C
namespace Go.ah
def aqt{p:Prop}(h:p:=by
 show(0,[av (ln (ints f.Ts)==0)])=_;rw [l0,show(ints f.Ts).isEmpty =true from t2]):p:=h
end Go.ah
namespace Go.Proofs.B.C
open Go Go.ah
section
variable{a:aE}
section
variable (f:gp) (L D H A:aE)
theorem LK{a b:Int}(h:(a==b)=true):(a != b)=false:=by rw [bne,h];rfl
theorem Qt{a b:Bool}(h:(a==b)=true):(!(a==b))=false:=iW
theorem aOY{x:XF}(h:xB f.kind f.x f.kind x=true):E (λN _=>abe (FU CX EE N) N ([SF f L D H A,aa (rO 2 f.kind x)]++e9)) (0,[SF f L D H A,aa (rO 2 f.kind x)]++e9):=by
 unfold xB at h;simp only [bA]at h;obtain⟨_,h1,h2,h3,h4,h5,h6,h7,h8,h9,mK,qL⟩:=h;exact bX aFt (au (LK h1)<|au (LK h2)<|au (LK h3)<|au (LK h4)<|au (LK h5)<|au (Qt h7)<|au (Qt h8)<|au (Qt h9)<|au (Qt mK)<|au (Qt qL)<|au (LK h6)<|aD)
theorem lp{l:aE}:decide (0<ln l)= !l.isEmpty:=by cases l<;>simp [ln]
theorem w2{b:aE}(ha:a.length<=mx)(hb:b.length<=mx):(aU (ln a+ln b)==0)=(a.isEmpty&&b.isEmpty):=by
 simp only [mx]at ha hb;have:aU (ln a+ln b)=ln a+ln b:=mi (by simp only [ln];omega) (by simp only [ln];omega);rw [this];cases a<;>cases b<;>simp [ln]<;>omega
theorem l0:(ln a==0)=a.isEmpty:=by cases a<;>simp [ln];omega
theorem avo(k:Int):(vF k==2)=(k==16)/\(vF k==1)=(k==9)/\(vF k==3)=(k==19)/\(vF k==1||vF k==4)=(k==9||k==22)/\Qx k=(k==9||(k==19||k==22)):=by
 cases h9:k==9 with
 |true=>rw [eq_of_beq h9];decide
 |false=>
 cases qJ:k==16 with
 |true=>rw [eq_of_beq qJ];decide
 |false=>
 cases wE:k==19 with
 |true=>rw [eq_of_beq wE];decide
 |false=>
 cases vM:k==22 with
 |true=>rw [eq_of_beq vM];decide
 |false=>
  have a:vF k=0:=by unfold vF;rw [h9,qJ,wE,vM];rfl
  have b:Qx k=false:=by unfold Qx;rw [h9,wE,vM];rfl
  rw [a,b];decide
theorem aPF(k:Int):0<=eS k/\0<=lS k:=by
 constructor
 ·unfold eS;cases k==2<;>cases k==4<;>cases k==5<;>cases k==6<;>cases k==11<;>cases k==15<;>decide
 ·unfold lS;cases k==4<;>cases k==5<;>cases k==6<;>cases k==7<;>cases k==9<;>cases k==16<;>cases k==17<;>cases k==18<;>cases k==19<;>cases k==20<;>decide
def zx(f:gp)(L D H A:aE):Bool:=BU f.kind&&(vu f L&&Qo f D H A (vF f.kind))
theorem UA(h:zx f L D H A=true):ln (f.E.map aH)=Mh f.kind (ln (f.E.map aH))/\ln (f.To.map dc)=toS f.kind/\ln L=FV f.kind (ln L):=by
 unfold zx vu at h;simp only [bA,iA]at h;exact⟨h.2.1.2.1,h.2.1.2.2.1,h.2.1.2.2.2⟩
theorem aNz(hf:f.Ok)(hD:D.length<=mx)(hH:H.length<=mx)(h:zx f L D H A=true):Ev acg [SF f L D H A] (0,[c5]):=by
 obtain⟨g1,g2,g3⟩:=UA f L D H A h;unfold zx at h;simp only [bA]at h;obtain⟨hk,h5,ht⟩:=h;have hx:xB f.kind f.x f.kind (xS f f.kind)=true:=by unfold vu at h5;exact(bA _ _▸h5).1
 obtain⟨m1,m2,m3,m4,m5⟩:=avo f.kind;obtain⟨n1,n2⟩:=aPF f.kind;unfold Qo at ht;rw [m4,m1,m2,m3,w2 (by rw [dW];exact hf.Ins.1) (by rw [dW];exact hf.kS.1),w2 hD hH,l0 (a:=A),l0 (a:=ints f.Ts)]at ht;simp only [bA]at ht;obtain⟨t1,t2,t3,t4⟩:=ht;have a62:=aYE f L D H A;rw [hk]at a62;have aZ5:bY abd [iI (Yp f.kind),iI (toS f.kind),iI (Qy f.kind),SF f L D H A] (0,[SF f L D H A]):=by
  have rest:E (λ_ _=>bif ln (f.To.map dc) != toS f.kind then some (1,[aT,SF f L D H A])else bif decide (0<=Qy f.kind)then bif ln L != Qy f.kind then some (1,[aT,SF f L D H A])else some (0,[SF f L D H A])else some (0,[SF f L D H A])) (0,[SF f L D H A]):=
   au (by rw [g2];simp) (ax (λg=>au (by unfold Qy FV at*;cases h:lF f.kind<;>rw [h]at g3 g<;>simp at g3 g⊢;exact g3) aD) λ_=>aD)
  exact bX aFs (ax (c:=decide (0<=Yp f.kind)) (λg=>au (by unfold Yp Mh at*;cases h:eF f.kind<;>rw [h]at g1 g<;>simp at g1 g⊢;exact g1) rest) λ_=>rest)
 have aZ4:bY abc [SF f L D H A] (0,[SF f L D H A]):=by
  refine bX aFr (ax (c:=f.kind != 16) (λg=> ?_) λ_=>aD);rw [pY g]at t1;have t1:=(bA _ _).mp t1;exact au (c:=decide (0<ln (f.Ins.map aH))) (by rw [lp,t1.1];rfl) (au (c:=decide (0<ln (f.kS.map dc))) (by rw [lp,t1.2];rfl) aD)
 have aP1:bY aaP [SF f L D H A] (0,[SF f L D H A]):=by
  have rest:E (λ_ _=>bif f.kind != 19 then bif decide (0<ln A)then some (1,[aT,SF f L D H A])else some (0,[SF f L D H A])else some (0,[SF f L D H A])) (0,[SF f L D H A]):=
   ax (λg=>au (by rw [pY g]at t4;rw [lp,show A.isEmpty=true from t4];rfl) aD) λ_=>aD
  refine bX aEa (ax (c:=f.kind != 9) (λg=> ?_) λ_=>rest);rw [pY g]at t3;have t3:=(bA _ _).mp t3;exact au (c:=decide (0<ln D)) (by rw [lp,t3.1];rfl) (au (c:=decide (0<ln H)) (by rw [lp,t3.2];rfl) rest)
 refine bj aIS (ae a62 (bh (ae (aOY f L D H A hx) (bh (ae aZ5 (bh (ae aZ4 (bh (ae aP1 (bh ?_))))))))));refine ax (c:=Qx f.kind) (λh=>ax (c:=f.kind != 19) (λg=>aD) λg=>ab ?_) λh=>ab ?_
 ·rw [show f.kind=19 from eq_of_beq (fb g)]at t2;exact aqt
 ·rw [m5]at h;simp only [N8]at h;rw [h.1,h.2.2]at t2;exact aqt
end
end
end Go.Proofs.B.C
