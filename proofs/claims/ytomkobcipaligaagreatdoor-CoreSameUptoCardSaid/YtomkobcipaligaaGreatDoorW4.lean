/-
  The fields of an expression's kind; operators; on both sides.
-/
import Derived.Test.YtomkobcipaligaaGreatDoorW3
import Derived.KernelRfl
import Derived.Lib.ItoaNum
set_option linter.all false
set_option linter.deprecated false
set_option maxHeartbeats 4000000
namespace Go.Proofs.B
open Go Go.aj Qm Wq
set_option maxRecDepth 100000
noncomputable section
variable {G:Nat->ak->Option UO} {N n:Nat} {i0 i1 i2:Int} {l0 l1 l2 l3 l4 l5 l6 l7:ak} {r0 r1 r2 r3 r4 r5 r6 r8:aY}
def auI:bN CX EE G N LD [J l0,J l1,J l2,aw r3,.ae 0 r4]=(dr ((gI l1 0)==2) (oj 0 l1 14 (bO (G CJ [bx l0 (.ptr 0 0 0),jq (nR l1 14 0),cu l2 (.mp 2),bI r3,bK r4]) λ_ o1=>kh (gB o1 1) (oj 0 l1 12 (bO (G CL [bx l0 (.ptr 0 0 0),cp (nR l1 12 0),dp o1 0,jM o1 2 (.mp 2),jf o1,jU o1]) λ_ o2=>oH o2 (bY o2 (.mp 2)) (bZ o2) [bS o2])) (jM o1 2 (.mp 2)) [jf o1,jU o1])) ((gI l1 0)==4) (oj 0 l1 12 (bO (G Lr [bx l0 (.ptr 0 0 0),cp (nR l1 12 0),cu l2 (.mp 2),bI r3,bK r4]) λ_ o3=>oH o3 (bY o3 (.mp 2)) (bZ o3) [bS o3])) (dr ((gI l1 0)==5) (oj 0 l1 12 (bO (G Lr [bx l0 (.ptr 0 0 0),cp (nR l1 12 0),cu l2 (.mp 2),bI r3,bK r4]) λ_ o4=>oH o4 (bY o4 (.mp 2)) (bZ o4) [bS o4])) ((gI l1 0)==6) (bO (Wd G N [cu l2 (.mp 2),bI r3,bK r4,bx l0 (.ptr 0 0 0),aE l1]) λq8 o8=>lh q8 (oj 0 (gC o8 4) 12 (bO (G zx [ma o8 3 (.ptr 0 0 0),cp (nR (gC o8 4) 12 0),jM o8 0 (.mp 2),gL o8 1,kK o8 2]) λ_ o9=>kh (fm o9) (oj 1 (gC o8 4) 12 (bO (G zx [ma o8 3 (.ptr 0 0 0),cp (nR (gC o8 4) 12 1),bY o9 (.mp 2),bZ o9,bS o9]) λ_ cV=>kh (fm cV) (oj 0 (gC o8 4) 12 (bO (G CL [ma o8 3 (.ptr 0 0 0),cp (nR (gC o8 4) 12 0),c8 ([[eM (gC o8 4) 2]]:aY),bY cV (.mp 2),bZ cV,bS cV]) λ_ dt=>kh (fm dt) (oj 1 (gC o8 4) 12 (bO (G CL [ma o8 3 (.ptr 0 0 0),cp (nR (gC o8 4) 12 1),c8 ([[eM (gC o8 4) 2]]:aY),bY dt (.mp 2),bZ dt,bS dt]) λ_ dh=>oH dh (bY dh (.mp 2)) (bZ dh) [bS dh])) (bY dt (.mp 2)) [bZ dt,bS dt])) (bY cV (.mp 2)) [bZ cV,bS cV])) (bY o9 (.mp 2)) [bZ o9,bS o9])) o8 [bY o8 (.mp 2),bZ o8,bS o8]) (dr ((gI l1 0)==7) (kh (da 1 (gI l1 1)) (kh (da (gI l1 1) 8192) (bO (G wa [dp l0 3,eM l1 1]) λ_ ju=>gJ (dG ju) (cu l2 (.mp 2)) (bI r3) [bK r4]) (cu l2 (.mp 2)) [bI r3,bK r4]) (cu l2 (.mp 2)) [bI r3,bK r4]) ((gI l1 0)==8) (bO (G wa [dp l0 2,eM l1 1]) λ_ cY=>oH cY (cu l2 (.mp 2)) (bI r3) [bK r4]) (bif (gI l1 0)==10 then dr ((gI l1 1)==0) (dr (gB l0 9) (gJ true (cu l2 (.mp 2)) (bI r3) [bK r4]) (da 1 (gI l1 1)) (gJ (da (gI l1 1) (gI l2 3)) (cu l2 (.mp 2)) (bI r3) [bK r4]) (gw cx (cu l2 (.mp 2)) (bI r3) [bK r4])) (da 1 (gI l1 1)) (gJ (da (gI l1 1) (gI l2 3)) (cu l2 (.mp 2)) (bI r3) [bK r4]) (gw cx (cu l2 (.mp 2)) (bI r3) [bK r4])else bO (Wa G N [pG l1,cu l2 (.mp 2),bI r3,bK r4]) λ_ eW=>bif fm eW then oj 0 l1 12 (bO (G zx [bx l0 (.ptr 0 0 0),cp (nR l1 12 0),bY eW (.mp 2),bZ eW,bS eW]) λ_ lM=>oH lM (bY lM (.mp 2)) (bZ lM) [bS lM])else bO (V7 G N [pG l1,bY eW (.mp 2),bZ eW,bS eW]) λ_ c9=>dr (fm c9) (oj 0 l1 14 (bO (G Lw [bx l0 (.ptr 0 0 0),jq (nR l1 14 0),bY c9 (.mp 2),bZ c9,bS c9]) λ_ gM=>oH gM (bY gM (.mp 2)) (bZ gM) [bS gM])) ((gI l1 0)==14) (bif gB l1 6 then oj 0 l1 14 (bO (G Lw [bx l0 (.ptr 0 0 0),jq (nR l1 14 0),bY c9 (.mp 2),bZ c9,bS c9]) λ_ iX=>kh (fm iX) (bO (G wa [dp l0 5,eM l1 4]) λ_ qj=>kh (fm qj) (bO (G Qg [bx l0 (.ptr 0 0 0),eM l1 4,eM l1 5,bY iX (.mp 2),bZ iX,bS iX]) λ_ jo=>oH jo (bY jo (.mp 2)) (bZ jo) [bS jo]) (bY iX (.mp 2)) [bZ iX,bS iX]) (bY iX (.mp 2)) [bZ iX,bS iX])else oj 0 l1 14 (bO (G Lw [bx l0 (.ptr 0 0 0),jq (nR l1 14 0),bY c9 (.mp 2),bZ c9,bS c9]) λ_ qi=>kh (fm qi) (bO (G H9 [bx l0 (.ptr 0 0 0),eM l0 1,eM l1 5,bY qi (.mp 2),bZ qi,bS qi]) λ_ sZ=>oH sZ (bY sZ (.mp 2)) (bZ sZ) [bS sZ]) (bY qi (.mp 2)) [bZ qi,bS qi])) (dr ((gI l1 0)==16) (bO (G Fe [bx l0 (.ptr 0 0 0),aE l1,bY c9 (.mp 2),bZ c9,bS c9]) λ_ jA=>kh (fm jA) (bO (G Qh [bx l0 (.ptr 0 0 0),aE l1,bY jA (.mp 2),bZ jA,bS jA]) λ_ y6=>oH y6 (bY y6 (.mp 2)) (bZ y6) [bS y6]) (bY jA (.mp 2)) [bZ jA,bS jA]) ((gI l1 0)==17) (bO (G Fe [bx l0 (.ptr 0 0 0),aE l1,bY c9 (.mp 2),bZ c9,bS c9]) λ_ ye=>kh (fm ye) (bO (G Qg [bx l0 (.ptr 0 0 0),eM l1 4,eM l1 5,bY ye (.mp 2),bZ ye,bS ye]) λ_ EA=>oH EA (bY EA (.mp 2)) (bZ EA) [bS EA]) (bY ye (.mp 2)) [bZ ye,bS ye]) (bif (gI l1 0)==18 then bO (G Qo [bx l0 (.ptr 0 0 0),eM l1 5,bY c9 (.mp 2),bZ c9,bS c9]) λ_ He=>oH He (bY He (.mp 2)) (bZ He) [bS He]else dr ((gI l1 0)==20) (kh (da 0 (gI l1 4)) (kh (mL (gI l1 4) (dJ c9) 5) (bO (G wa [dp l0 5,eM l1 4]) λ_ Hc=>kh (dG Hc) (mb ((ln (gR l0 5))==0) mJ [bY c9 (.mp 2),bZ c9,bS c9] (fG (gI l1 4) (dJ c9) 5 (gJ ((ln (gR (cF (dJ c9) 5 (gI l1 4)) 2))==0) (bY c9 (.mp 2)) (bZ c9) [bS c9]))) (bY c9 (.mp 2)) [bZ c9,bS c9]) (bY c9 (.mp 2)) [bZ c9,bS c9]) (bY c9 (.mp 2)) [bZ c9,bS c9]) ((gI l1 0)==21) (bO (G Xd [bx l0 (.ptr 0 0 0),aE l1,bY c9 (.mp 2),bZ c9,bS c9]) λ_ Hb=>oH Hb (bY Hb (.mp 2)) (bZ Hb) [bS Hb]) (eL ((gI l1 0)==22) (kh (da 1 (qe l1 16)) (kh (da (qe l1 16) 32) (bO (G L0 [dp l1 16,iI 1,tt ((ln (gR (dJ c9) 4))- 1)]) λ_ Ez=>oH Ez (bY c9 (.mp 2)) (bZ c9) [bS c9]) (bY c9 (.mp 2)) [bZ c9,bS c9]) (bY c9 (.mp 2)) [bZ c9,bS c9]) mJ (bY c9 (.mp 2)) [bZ c9,bS c9])))))):aL):=ac
def auK:bN CX EE G N H8 [J l0,J l1,aw r2,.ae 0 r3]=(gw (vD l0 (.ptr 0 0 0) [(2,jK),(9,cx),(10,iI (-1))]) (cu l1 (.mp 2)) (bI r2) [bK r3]:aL):=ac
def atD:WZ G N [J l0,aw r1,.ae 0 r2,J l3,J l4]=(dr (mL 256 l4 18) (oG l0 (.mp 2) r1 [bK r2,bx l3 (.ptr 0 0 0),aE l4]) (mL 16 l4 19) (oG l0 (.mp 2) r1 [bK r2,bx l3 (.ptr 0 0 0),aE l4]) (bO (G L0 [dp l4 16,tt ((gI l3 1)+1),tt ((ln (gR l0 4))- 1)]) λ_ o1=>eL (dG o1) (oG l0 (.mp 2) r1 [bK r2,bx l3 (.ptr 0 0 0),aE l4]) (cu l0 (.mp 2)) (bI r1) [bK r2,bx l3 (.ptr 0 0 0),aE l4]):aL):=ac
def aeG:H6 G N (n+1) [aM r0,iI i1,iI i2,J l3,aw r4,.ae 0 r5,J l6]=(bif cj i2 i1 then fb i2 r0<|match aj.dF (aU r5) (iI (gI (bG r0 i2) 0))with|some m3=>(H6 G N n [aM r0,iI i1,cD i2,J (sT (bg dM 0 l3) eH),aw r4,.ae 0 (bz (aj.kX (aU r5) (iI (gI (bG r0 i2) 0)) (iI (bH (m3.toI+1))))),J (sT (bg lE 0 l6) oO)])|none=>(H6 G N n [aM r0,iI i1,cD i2,J (sT (bg dM 0 l3) eH),aw r4,.ae 0 (bz (aj.kX (aU r5) (iI (gI (bG r0 i2) 0)) (iI 1))),J (sT (bg lE 0 l6) oO)])else bu [J (sT (bg dM 0 l3) eH),aw r4,.ae 0 (bz (aU r5)),J (sT (bg lE 0 l6) oO)]:aL):=ac
def as9:WL G N [J l0,aw r1,.ae 0 r2,J l3,J l4]=(bO (H6 G N N (dp l4 16::nx l4 16::fQ (cu l0 (.mp 2)) [bI r1,bK r2,bx l3 (.ptr 0 0 0)])) λ_ o4=>gw (jM o4 0 (.mp 2)) (gL o4 1) (kK o4 2) [ma o4 3 (.ptr 0 0 0),aE l4]:aL):=ac
def PK:Lt G N (n+1) [gN r0,iI i1,iI i2,J l3,aw r4,.ae 0 r5,J l6,J l7]=(iC i2 i1 i2 r0 (bO (G mU [bx l6 (.ptr 0 0 0),aE (bG r0 i2),cu l3 (.mp 2),bI r4,bK r5]) λ_ o8=>om o8 [bY o8 (.mp 2),bZ o8,bS o8,bx l6 (.ptr 0 0 0),bx l7 (.ptr 0 0 0)] (bO (G mU [bx l7 (.ptr 0 0 0),lg 21 (bG r0 i2),bY o8 (.mp 2),bZ o8,bS o8]) λ_ o9=>om o9 [bY o9 (.mp 2),bZ o9,bS o9,bx l6 (.ptr 0 0 0),bx l7 (.ptr 0 0 0)] (Lt G N n [qC r0,iI i1,cD i2,bY o9 (.mp 2),bZ o9,bS o9,bx l6 (.ptr 0 0 0),bx l7 (.ptr 0 0 0)]))) (jH (cu l3 (.mp 2)) (bI r4) [bK r5,bx l6 (.ptr 0 0 0),bx l7 (.ptr 0 0 0)]):aL):=ac
def asx:Wt G N [J l0,aw r1,.ae 0 r2,J l3,J l4,J l5]=(bO (Lt G N N (fu Fo l3 18::nx l3 18::fQ (cu l0 (.mp 2)) [bI r1,bK r2,bx l4 (.ptr 0 0 0),bx l5 (.ptr 0 0 0)])) λrD cV=>kv rD (p7 cV (bY cV (.mp 2)) [bZ cV,bS cV,aE l3,ma cV 4 (.ptr 0 0 0),ma cV 5 (.ptr 0 0 0)]) (jM cV 0 (.mp 2)) [gL cV 1,kK cV 2,aE l3,ma cV 3 (.ptr 0 0 0),ma cV 4 (.ptr 0 0 0)]:aL):=ac
def arz:V8 G N [iI i0,J l1,aw r2,.ae 0 r3,J l4,J l5,J l6]=(bif (ln (gR l6 0))==0 then rk i0 (bH ((ln (gR l5 19))- 1)) (oG l1 (.mp 2) r2 [bK r3,bx l4 (.ptr 0 0 0),aE l5,AY l6]) (bO (G Is [dp l6 0,iI 1,eM l1 3]) λ_ ju=>eL (dG ju) (oG l1 (.mp 2) r2 [bK r3,bx l4 (.ptr 0 0 0),aE l5,AY l6]) (cu l1 (.mp 2)) (bI r2) [bK r3,bx l4 (.ptr 0 0 0),aE l5,AY l6])else bO (G Is [dp l6 0,iI 1,eM l1 3]) λ_ cY=>eL (dG cY) (oG l1 (.mp 2) r2 [bK r3,bx l4 (.ptr 0 0 0),aE l5,AY l6]) (cu l1 (.mp 2)) (bI r2) [bK r3,bx l4 (.ptr 0 0 0),aE l5,AY l6]:aL):=ac
def V5:HU G N (n+1) [aM r0,iI i1,iI i2,J l3,aw r4,.ae 0 r5,.ae 0 r6]=(bif cj i2 i1 then fb i2 r0<|match aj.dF (aU r6) (iI (gI (bG r0 i2) 0))with|some m16=>(bif m16.toB then bu [bq,J (sT (bg dM 0 l3) eH),aw r4,.ae 0 (bz (aU r5)),.ae 0 (bz (aU r6))]else HU G N n [aM r0,iI i1,cD i2,J (sT (bg dM 0 l3) eH),aw r4,.ae 0 (bz (aU r5)),.ae 0 (bz (aj.kX (aU r6) (iI (gI (bG r0 i2) 0)) (fF)))])|none=>(HU G N n [aM r0,iI i1,cD i2,J (sT (bg dM 0 l3) eH),aw r4,.ae 0 (bz (aU r5)),.ae 0 (bz (aj.kX (aU r6) (iI (gI (bG r0 i2) 0)) (fF)))])else lK [J (sT (bg dM 0 l3) eH),aw r4,.ae 0 (bz (aU r5)),.ae 0 (bz (aU r6))]:aL):=ac
def aeq:HX G N (n+1) [gy r0,iI i1,iI i2,J l3,aw r4,.ae 0 r5,J l6,J l7,.ae 0 r8]=(iC i2 i1 i2 r0 (bO (V8 G N [iI i2,cu l3 (.mp 2),bI r4,bK r5,bx l6 (.ptr 0 0 0),aE l7,AY (bG r0 i2)]) λG6 eW=>lh G6 (bO (HU G N N ((dp (gC eW 5) 0)::(nx (gC eW 5) 0)::fQ (jM eW 0 (.mp 2)) [gL eW 1,kK eW 2,bK r8])) λB8 c9=>nc B8 c9 [bY c9 (.mp 2),bZ c9,bS c9,ma eW 3 (.ptr 0 0 0),aE (gC eW 4),jU c9] (bO (G mU [ma eW 3 (.ptr 0 0 0),lg 1 (gC eW 5),jM c9 0 (.mp 2),gL c9 1,kK c9 2]) λ_ gM=>om gM [bY gM (.mp 2),bZ gM,bS gM,ma eW 3 (.ptr 0 0 0),aE (gC eW 4),bS c9] (HX G N n [qA r0,iI i1,cD i2,bY gM (.mp 2),bZ gM,bS gM,ma eW 3 (.ptr 0 0 0),aE (gC eW 4),bS c9]))) eW [bY eW (.mp 2),bZ eW,bS eW,ma eW 4 (.ptr 0 0 0),aE (gC eW 5),bK r8]) (jH (cu l3 (.mp 2)) (bI r4) [bK r5,bx l6 (.ptr 0 0 0),aE l7,bK r8]):aL):=ac
def auN:bN CX EE G N LG [J l0,J l1,J l2,aw r3,.ae 0 r4]=(bO (WZ G N [J (sT (bg dM 0 l2) eH),aw r3,.ae 0 (bz (aU r4)),J (sT (bg lE 0 l0) oO),aE l1]) λq2 o2=>bif pT q2 then bO (WL G N [J (sT (bg dM 0 (gC o2 0)) eH),aw (gR o2 1),.ae 0 (bz (aU (gR o2 2))),J (sT (bg lE 0 (gC o2 3)) oO),aE (gC o2 4)]) λ_ o5=>bO (G H8 [J (sT (bg lE 0 (gC o5 3)) oO),J (sT (bg dM 0 (gC o5 0)) eH),aw (gR o5 1),.ae 0 (bz (aU (gR o5 2)))]) λ_ o6=>bO (G H8 [J (sT (bg lE 0 (gC o5 3)) oO),J (sT (bg dM 0 (gC o6 1)) eH),aw (gR o6 2),.ae 0 (bz (aU (gR o6 3)))]) λ_ o7=>bO (Wt G N [J (sT (bg dM 0 (gC o7 1)) eH),aw (gR o7 2),.ae 0 (bz (aU (gR o7 3))),aE (gC o5 4),J (sT (bg lE 0 (gC o6 0)) [(0,.ptr 0 0 0),(7,fF)]),J (sT (bg lE 0 (gC o7 0)) [(0,.ptr 0 0 0),(8,fF)])]) λxb dt=>bif pT xb then bf (cj 0 (ln (gR (gC dt 3) 17)))<|bO (G mU [J (sT (bg lE 0 (gC o5 3)) [(0,.ptr 0 0 0),(10,iI (-1))]),aE (gA (gR (gC dt 3) 17) 0),J (sT (bg dM 0 (gC dt 0)) eH),aw (gR dt 1),.ae 0 (bz (aU (gR dt 2)))]) λ_ dh=>bif !(gB dh 0)then bu [bq,J (sT (bg dM 0 (gC dh 1)) eH),aw (gR dh 2),.ae 0 (bz (aU (gR dh 3)))]else bO (HX G N N [gy (gR (gC dt 3) 19),iI (ln (gR (gC dt 3) 19)),iI 0,J (sT (bg dM 0 (gC dh 1)) eH),aw (gR dh 2),.ae 0 (bz (aU (gR dh 3))),J (sT (bg lE 0 (gC o5 3)) [(0,.ptr 0 0 0),(9,fF),(10,iI (-1))]),aE (gC dt 3),.ae 0 (bz (([]:List (AV×AV))))]) λG4 iX=>bif pT G4 then bu [aJ (gB iX 0),J (sT (bg dM 0 (gC iX 1)) eH),aw (gR iX 2),.ae 0 (bz (aU (gR iX 3)))]else bu [fF,J (sT (bg dM 0 (gC iX 0)) eH),aw (gR iX 1),.ae 0 (bz (aU (gR iX 2)))]else bu [aJ (gB dt 0),J (sT (bg dM 0 (gC dt 1)) eH),aw (gR dt 2),.ae 0 (bz (aU (gR dt 3)))]else bu [aJ (gB o2 0),J (sT (bg dM 0 (gC o2 1)) eH),aw (gR o2 2),.ae 0 (bz (aU (gR o2 3)))]:aL):=ac
end
noncomputable section
variable {G:Nat->ak->Option UO} {N n:Nat} {i0 i1 i2:Int} {l0 l1 l2 l3 l4 l5 l6:ak} {r0 r1 r2 r3 r4 r5 r6 r7:aY}
def as8:WK G N [J l0,aw r1,.ae 0 r2,J l3]=(dr (cj (qe l3 20) 1) (oG l0 (.mp 2) r1 [bK r2,aE l3]) (mL 16 l3 20) (oG l0 (.mp 2) r1 [bK r2,aE l3]) (eL (sR l3 9) (oj 0 l3 17 (bO (G yp [aE (nR l3 17 0)]) λ_ o1=>eL (dG o1) (oG l0 (.mp 2) r1 [bK r2,aE l3]) (cu l0 (.mp 2)) (bI r1) [bK r2,aE l3])) (cu l0 (.mp 2)) (bI r1) [bK r2,aE l3]):aL):=ac
def arl:V6 G N [cE i0,J l1,aw r2,.ae 0 r3]=(eL (i0==2) (gJ true (cu l1 (.mp 2)) (bI r2) [bK r3]) (aJ (i0==3)) (cu l1 (.mp 2)) [bI r2,bK r3]:aL):=ac
def ary:HV G N [cE i0,J l1,aw r2,.ae 0 r3,J l4,J l5,J l6]=(bif i0==1 then rk 0 (qe l5 11) (oG l1 (.mp 2) r2 [bK r3,bx l4 (.ptr 0 0 0),qP l5,bx l6 (.ptr 0 0 0)]) (bO (G Qo [bx l4 (.ptr 0 0 0),eM l5 10,cu l1 (.mp 2),bI r2,bK r3]) λ_ o5=>lj (dG o5) [cx,bY o5 (.mp 2),bZ o5,bS o5,bx l4 (.ptr 0 0 0),qP l5,bx l6 (.ptr 0 0 0)] (bO (G PQ [bx l4 (.ptr 0 0 0),eM l5 10,bY o5 (.mp 2),bZ o5,bS o5]) λ_ o6=>gw (mf i0) (bY o6 (.mp 2)) (bZ o6) [bS o6,bx l4 (.ptr 0 0 0),qP l5,vD (cP o6) (.ptr 0 0 0) [(4,dp o6 4)]]))else bO (V6 G N [mf i0,cu l1 (.mp 2),bI r2,bK r3]) λ_ o7=>dr (fm o7) (dr ((gI l5 10) != 0) (p8 (bY o7 (.mp 2)) o7 [bS o7,bx l4 (.ptr 0 0 0),qP l5,bx l6 (.ptr 0 0 0)]) ((ln (gR l5 11)) != 1) (p8 (bY o7 (.mp 2)) o7 [bS o7,bx l4 (.ptr 0 0 0),qP l5,bx l6 (.ptr 0 0 0)]) (oj 0 l5 11 (bO (G zx [bx l4 (.ptr 0 0 0),cp (nR l5 11 0),bY o7 (.mp 2),bZ o7,bS o7]) λ_ o8=>lj (dG o8) [cx,bY o8 (.mp 2),bZ o8,bS o8,bx l4 (.ptr 0 0 0),qP l5,bx l6 (.ptr 0 0 0)] (bO (G yp [lg 12 l5]) λ_ o9=>eL (dG o9) (p8 (bY o8 (.mp 2)) o8 [bS o8,bx l4 (.ptr 0 0 0),qP l5,bx l6 (.ptr 0 0 0)]) (mf 2) (bY o8 (.mp 2)) [bZ o8,bS o8,bx l4 (.ptr 0 0 0),qP l5,bx l6 (.ptr 0 0 0)])))) (i0==4) (dr ((gI l5 10) != 0) (p8 (bY o7 (.mp 2)) o7 [bS o7,bx l4 (.ptr 0 0 0),qP l5,bx l6 (.ptr 0 0 0)]) (mL 0 l5 11) (p8 (bY o7 (.mp 2)) o7 [bS o7,bx l4 (.ptr 0 0 0),qP l5,bx l6 (.ptr 0 0 0)]) (bO (G yp [lg 12 l5]) λ_ cV=>lj (dG cV) [cx,bY o7 (.mp 2),bZ o7,bS o7,bx l4 (.ptr 0 0 0),qP l5,bx l6 (.ptr 0 0 0)] (bO (G yp [lg 33 l5]) λ_ dt=>eL (dG dt) (p8 (bY o7 (.mp 2)) o7 [bS o7,bx l4 (.ptr 0 0 0),qP l5,bx l6 (.ptr 0 0 0)]) (mf i0) (bY o7 (.mp 2)) [bZ o7,bS o7,bx l4 (.ptr 0 0 0),qP l5,bx l6 (.ptr 0 0 0)]))) (p8 (bY o7 (.mp 2)) o7 [bS o7,bx l4 (.ptr 0 0 0),qP l5,bx l6 (.ptr 0 0 0)]):aL):=ac
def aew:AU G N (n+1) [eh r0,iI i1,iI i2,J l3,aw r4,.ae 0 r5,J l6,.ae 0 r7]=(bif cj i2 i1 then fb i2 r0<|bO (G Lr [J (sT (bg lE 0 l6) oO),J (bg lU 1 (bG r0 i2)),J (sT (bg dM 0 l3) eH),aw r4,.ae 0 (bz (aU r5))]) λ_ o4=>bif !(gB o4 0)then bu [bq,J (sT (bg dM 0 (gC o4 1)) eH),aw (gR o4 2),.ae 0 (bz (aU (gR o4 3))),J (sT (bg lE 0 l6) oO),.ae 0 (bz (aU r7))]else bO (HV G N [cE (gI (bG r0 i2) 0),J (sT (bg dM 0 (gC o4 1)) eH),aw (gR o4 2),.ae 0 (bz (aU (gR o4 3))),J (sT (bg lE 0 l6) oO),qP (bG r0 i2),J (sT (bg lE 0 l6) oO)]) λy4 dh=>bif pT y4 then match aj.dF (aU r7) (cE (gI dh 0))with|some m13=>(bO (G mU [J (sT (bg lE 0 (gC dh 6)) oO),J (bg fU 12 (gC dh 5)),J (sT (bg dM 0 (gC dh 1)) eH),aw (gR dh 2),.ae 0 (bz (aU (gR dh 3)))]) λ_ cY=>bif !(gB cY 0)then bu [bq,J (sT (bg dM 0 (gC cY 1)) eH),aw (gR cY 2),.ae 0 (bz (aU (gR cY 3))),J (sT (bg lE 0 (gC dh 4)) oO),.ae 0 (bz (aj.kX (aU r7) (cE (gI dh 0)) (iI (bH (m13.toI+1)))))]else bO (G mU [J (sT (bg lE 0 (gC dh 4)) oO),J (bg fU 33 (gC dh 5)),J (sT (bg dM 0 (gC cY 1)) eH),aw (gR cY 2),.ae 0 (bz (aU (gR cY 3)))]) λ_ eW=>bif !(gB eW 0)then bu [bq,J (sT (bg dM 0 (gC eW 1)) eH),aw (gR eW 2),.ae 0 (bz (aU (gR eW 3))),J (sT (bg lE 0 (gC dh 4)) oO),.ae 0 (bz (aj.kX (aU r7) (cE (gI dh 0)) (iI (bH (m13.toI+1)))))]else AU G N n [eh r0,iI i1,cD i2,J (sT (bg dM 0 (gC eW 1)) eH),aw (gR eW 2),.ae 0 (bz (aU (gR eW 3))),J (sT (bg lE 0 (gC dh 4)) oO),.ae 0 (bz (aj.kX (aU r7) (cE (gI dh 0)) (iI (bH (m13.toI+1)))))])|none=>(bO (G mU [J (sT (bg lE 0 (gC dh 6)) oO),J (bg fU 12 (gC dh 5)),J (sT (bg dM 0 (gC dh 1)) eH),aw (gR dh 2),.ae 0 (bz (aU (gR dh 3)))]) λ_ lM=>bif !(gB lM 0)then bu [bq,J (sT (bg dM 0 (gC lM 1)) eH),aw (gR lM 2),.ae 0 (bz (aU (gR lM 3))),J (sT (bg lE 0 (gC dh 4)) oO),.ae 0 (bz (aj.kX (aU r7) (cE (gI dh 0)) (iI 1)))]else bO (G mU [J (sT (bg lE 0 (gC dh 4)) oO),J (bg fU 33 (gC dh 5)),J (sT (bg dM 0 (gC lM 1)) eH),aw (gR lM 2),.ae 0 (bz (aU (gR lM 3)))]) λ_ c9=>bif !(gB c9 0)then bu [bq,J (sT (bg dM 0 (gC c9 1)) eH),aw (gR c9 2),.ae 0 (bz (aU (gR c9 3))),J (sT (bg lE 0 (gC dh 4)) oO),.ae 0 (bz (aj.kX (aU r7) (cE (gI dh 0)) (iI 1)))]else AU G N n [eh r0,iI i1,cD i2,J (sT (bg dM 0 (gC c9 1)) eH),aw (gR c9 2),.ae 0 (bz (aU (gR c9 3))),J (sT (bg lE 0 (gC dh 4)) oO),.ae 0 (bz (aj.kX (aU r7) (cE (gI dh 0)) (iI 1)))])else bu [aJ (gB dh 0),J (sT (bg dM 0 (gC dh 1)) eH),aw (gR dh 2),.ae 0 (bz (aU (gR dh 3))),J (sT (bg lE 0 (gC dh 4)) oO),.ae 0 (bz (aU r7))]else lK [J (sT (bg dM 0 l3) eH),aw r4,.ae 0 (bz (aU r5)),J (sT (bg lE 0 l6) oO),.ae 0 (bz (aU r7))]:aL):=ac
def asa:PO G N [iI i0,J l1,aw r2,.ae 0 r3,.ae 0 r4]=(match aj.dF (aU r4) (cE 2)with|some m20=>(bif cj 0 (m20.toI)then bu [cD i0,J (sT (bg dM 0 l1) eH),aw r2,.ae 0 (bz (aU r3)),.ae 0 (bz (aU r4))]else bu [iI i0,J (sT (bg dM 0 l1) eH),aw r2,.ae 0 (bz (aU r3)),.ae 0 (bz (aU r4))])|none=>(bu [iI i0,J (sT (bg dM 0 l1) eH),aw r2,.ae 0 (bz (aU r3)),.ae 0 (bz (aU r4))]):aL):=ac
def aul:bN CX EE G N LA [J l0,J l1,J l2,aw r3,.ae 0 r4]=(bO (WK G N [J (sT (bg dM 0 l2) eH),aw r3,.ae 0 (bz (aU r4)),aE l1]) λq2 o2=>bif pT q2 then bf (cj 0 (ln (gR (gC o2 3) 17)))<|bO (G mU [J (sT (bg lE 0 l0) [(0,.ptr 0 0 0),(10,iI (-1))]),aE (gA (gR (gC o2 3) 17) 0),J (sT (bg dM 0 (gC o2 0)) eH),aw (gR o2 1),.ae 0 (bz (aU (gR o2 2)))]) λ_ o3=>bif !(gB o3 0)then bu [bq,J (sT (bg dM 0 (gC o3 1)) eH),aw (gR o3 2),.ae 0 (bz (aU (gR o3 3)))]else bO (AU G N N [eh (gR (gC o2 3) 20),iI (ln (gR (gC o2 3) 20)),iI 0,J (sT (bg dM 0 (gC o3 1)) eH),aw (gR o3 2),.ae 0 (bz (aU (gR o3 3))),J (sT (bg lE 0 l0) [(0,.ptr 0 0 0),(10,iI (-1))]),.ae 0 (bz (([]:List (AV×AV))))]) λOF gM=>bif pT OF then bu [aJ (gB gM 0),J (sT (bg dM 0 (gC gM 1)) eH),aw (gR gM 2),.ae 0 (bz (aU (gR gM 3)))]else match aj.dF (aU (gR gM 4)) (cE 4)with|some m19=>(bO (PO G N [iI m19.toI,J (sT (bg dM 0 (gC gM 0)) eH),aw (gR gM 1),.ae 0 (bz (aU (gR gM 2))),.ae 0 (bz (aU (gR gM 4)))]) λ_ jo=>bif gB (gC o2 3) 9 then match aj.dF (aU (gR jo 4)) (cE 1)with|some m22=>(bif cj 0 (m22.toI)then bu [aJ (da (bH (gI jo 0+1)) 1),J (sT (bg dM 0 (gC jo 1)) eH),aw (gR jo 2),.ae 0 (bz (aU (gR jo 3)))]else bu [bq,J (sT (bg dM 0 (gC jo 1)) eH),aw (gR jo 2),.ae 0 (bz (aU (gR jo 3)))])|none=>(bu [bq,J (sT (bg dM 0 (gC jo 1)) eH),aw (gR jo 2),.ae 0 (bz (aU (gR jo 3)))])else match aj.dF (aU (gR jo 4)) (cE 1)with|some m23=>(bif cj 0 (m23.toI)then bu [aJ (da (gI jo 0) 1),J (sT (bg dM 0 (gC jo 1)) eH),aw (gR jo 2),.ae 0 (bz (aU (gR jo 3)))]else bu [bq,J (sT (bg dM 0 (gC jo 1)) eH),aw (gR jo 2),.ae 0 (bz (aU (gR jo 3)))])|none=>(bu [bq,J (sT (bg dM 0 (gC jo 1)) eH),aw (gR jo 2),.ae 0 (bz (aU (gR jo 3)))]))|none=>(bO (PO G N [iI 0,J (sT (bg dM 0 (gC gM 0)) eH),aw (gR gM 1),.ae 0 (bz (aU (gR gM 2))),.ae 0 (bz (aU (gR gM 4)))]) λ_ jA=>bif gB (gC o2 3) 9 then match aj.dF (aU (gR jA 4)) (cE 1)with|some m25=>(bif cj 0 (m25.toI)then bu [aJ (da (bH (gI jA 0+1)) 1),J (sT (bg dM 0 (gC jA 1)) eH),aw (gR jA 2),.ae 0 (bz (aU (gR jA 3)))]else bu [bq,J (sT (bg dM 0 (gC jA 1)) eH),aw (gR jA 2),.ae 0 (bz (aU (gR jA 3)))])|none=>(bu [bq,J (sT (bg dM 0 (gC jA 1)) eH),aw (gR jA 2),.ae 0 (bz (aU (gR jA 3)))])else match aj.dF (aU (gR jA 4)) (cE 1)with|some m26=>(bif cj 0 (m26.toI)then bu [aJ (da (gI jA 0) 1),J (sT (bg dM 0 (gC jA 1)) eH),aw (gR jA 2),.ae 0 (bz (aU (gR jA 3)))]else bu [bq,J (sT (bg dM 0 (gC jA 1)) eH),aw (gR jA 2),.ae 0 (bz (aU (gR jA 3)))])|none=>(bu [bq,J (sT (bg dM 0 (gC jA 1)) eH),aw (gR jA 2),.ae 0 (bz (aU (gR jA 3)))]))else bu [aJ (gB o2 0),J (sT (bg dM 0 (gC o2 1)) eH),aw (gR o2 2),.ae 0 (bz (aU (gR o2 3)))]:aL):=ac
def auG:bN CX EE G N P9 [aM r0]=(bif r0.isEmpty then none else bf (l8Q r0)<|kI (c8 (([]:aY)++r0)):aL):=ac
def atd:bN CX EE G N H4 []=(kI jK:aL):=ac
def atc:bN CX EE G N H3 []=(kI jK:aL):=ac
def ayR:bN CX EE G N Fu [aM r0,iI i1]=(bO (DZ wI (G H4) (G H3) (G P9) [c8 r0]) λ_ o1=>bf (uJ (((gR o1 0).length +1)*8) 140737488355328)<|kI (c8 ((gR o1 0)++([[iI i1]]:aY))):aL):=ac
def asC:bN CX EE G N PQ [J l0,iI i1,J l2,aw r3,.ae 0 r4]=(bO (G H8 [bx l0 (.ptr 0 0 0),cu l2 (.mp 2),bI r3,bK r4]) λ_ o1=>bO (G Fu [dp (cP o1) 4,iI i1]) λ_ o2=>gw (p9 aAb (cP o1) (0,.ptr 0 0 0) [df 4 3,(10,iI i1)]) (bY o1 (.mp 2)) (bZ o1) [bS o1,dp o2 0]:aL):=ac
def aun:bN CX EE G N P1 [J l0,iI i1,J l2,aw r3,.ae 0 r4]=(bO (G H8 [bx l0 (.ptr 0 0 0),cu l2 (.mp 2),bI r3,bK r4]) λ_ o1=>bO (G Fu [dp (cP o1) 5,iI i1]) λ_ o2=>gw (p9 aAc (cP o1) (0,.ptr 0 0 0) [df 5 3]) (bY o1 (.mp 2)) (bZ o1) [bS o1,dp o2 0]:aL):=ac
def auj:bN CX EE G N W5 [J l0,J l1,J l2,aw r3,.ae 0 r4]=(bO (G mU [bx l1 (.ptr 0 0 0),aE l0,cu l2 (.mp 2),bI r3,bK r4]) λ_ o1=>gJ (dG o1) (bx l1 (.ptr 1 0 0)) (jL o1 1 2 [dD (.mp 3)]) [bZ o1,bS o1]:aL):=ac
def VH:Pt G N (n+1) [cX r0,iI i1,iI i2,J l3,J l4,aw r5,.ae 0 r6]=(iC i2 i1 i2 r0 (bO (G W5 [aE (bG r0 i2),bx l3 (.ptr 1 0 0),lZ l4 2 [dD (.mp 3)],bI r5,bK r6]) λ_ o1=>mb (fm o1) (iI i2) [oJ o1 (.ptr 1 0 0),jL o1 2 2 [dD (.mp 3)],jf o1,jU o1] (Pt G N n [jt r0,iI i1,cD i2,oJ o1 (.ptr 1 0 0),jL o1 2 2 [dD (.mp 3)],jf o1,jU o1])) (jH (bx l3 (.ptr 1 0 0)) (lZ l4 2 [dD (.mp 3)]) [bI r5,bK r6]):aL):=ac
def adD:bN CX EE G N Px [cX r0,J l1,J l2,aw r3,.ae 0 r4]=(bO (Pt G N N (jt r0::oK r0::fQ (bx l1 (.ptr 1 0 0)) [lZ l2 2 [dD (.mp 3)],bI r3,bK r4])) λq2 o2=>kv q2 (gw (oE o2) (oJ o2 (.ptr 1 0 0)) (jL o2 2 2 [dD (.mp 3)]) [jf o2,jU o2]) (iI (-1)) [bx (cP o2) (.ptr 1 0 0),jL o2 1 2 [dD (.mp 3)],bZ o2,bS o2]:aL):=ac
def adx:bN CX EE G N VI [cX r0,J l1,J l2,aw r3,.ae 0 r4]=(bO (G Px [jt r0,bx l1 (.ptr 1 0 0),lZ l2 2 [dD (.mp 3)],bI r3,bK r4]) λ_ o1=>gJ (da 0 (nh o1)) (oJ o1 (.ptr 1 0 0)) (jL o1 2 2 [dD (.mp 3)]) [jf o1,jU o1]:aL):=ac
def atz:Ly G N [J l0,aw r1,.ae 0 r2,J l3,J l4]=(dr (cj (gI l0 7) 0) (oG l0 (.mp 2) r1 [bK r2,bx l3 (.ptr 0 0 0),aE l4]) (da 64 (gI l3 11)) (oG l0 (.mp 2) r1 [bK r2,bx l3 (.ptr 0 0 0),aE l4]) (bO (G Q3 [aE l4]) λ_ o1=>lj (dG o1) [cx,cu l0 (.mp 2),bI r1,bK r2,bx l3 (.ptr 0 0 0),aE l4] (bO (G W6 [bx l3 (.ptr 0 0 0),aE l4,cu l0 (.mp 2),bI r1,bK r2]) λ_ o2=>lj (dG o2) [cx,bY o2 (.mp 2),bZ o2,bS o2,bx l3 (.ptr 0 0 0),aE l4] (bO (G LD [bx l3 (.ptr 0 0 0),aE l4,bY o2 (.mp 2),bZ o2,bS o2]) λ_ o3=>eL (dG o3) (p8 (bY o3 (.mp 2)) o3 [bS o3,bx l3 (.ptr 0 0 0),aE l4]) (bY o3 (.mp 2)) (bZ o3) [bS o3,bx l3 (.ptr 0 0 0),aE l4]))):aL):=ac
end
noncomputable section
variable {G:Nat->ak->Option UO} {N n:Nat} {s0 s1:ByteArray} {i0 i1 i2 i3:Int} {l0 l1 l2 l3 l4:ak} {r0 r1 r2 r3 r4 r5:aY}
def PS:zw G N [J l0,aw r1,.ae 0 r2,J l3,J l4]=(dr ((gI l4 0)==9) (bO (G LG [bx l3 (.ptr 0 0 0),aE l4,cu l0 (.mp 2),bI r1,bK r2]) λ_ o5=>p7 o5 (bY o5 (.mp 2)) [bZ o5,bS o5,bx l3 (.ptr 0 0 0),aE l4]) ((gI l4 0)==19) (bO (G LA [bx l3 (.ptr 0 0 0),aE l4,cu l0 (.mp 2),bI r1,bK r2]) λ_ o6=>p7 o6 (bY o6 (.mp 2)) [bZ o6,bS o6,bx l3 (.ptr 0 0 0),aE l4]) (dr ((gI l4 0)==18) (bO (G PQ [bx l3 (.ptr 0 0 0),eM l4 5,cu l0 (.mp 2),bI r1,bK r2]) λ_ o7=>oj 0 l4 17 (bO (G mU [vD (cP o7) (.ptr 0 0 0) [(4,dp o7 4)],aE (nR l4 17 0),bY o7 (.mp 2),bZ o7,bS o7]) λ_ o8=>bif fm o8 then oj 1 l4 17 (bO (G mU [vD l3 (.ptr 0 0 0) [(10,iI (-1))],aE (nR l4 17 1),bY o8 (.mp 2),bZ o8,bS o8]) λ_ o9=>p7 o9 (bY o9 (.mp 2)) [bZ o9,bS o9,bx l3 (.ptr 0 0 0),aE l4])else p8 (bY o8 (.mp 2)) o8 [bS o8,bx l3 (.ptr 0 0 0),aE l4])) ((gI l4 0)==20) (bO (G P1 [bx l3 (.ptr 0 0 0),eM l4 4,cu l0 (.mp 2),bI r1,bK r2]) λ_ cV=>oj 0 l4 17 (bO (G mU [vD (cP cV) (.ptr 0 0 0) [(5,dp cV 4)],aE (nR l4 17 0),bY cV (.mp 2),bZ cV,bS cV]) λ_ dt=>p7 dt (bY dt (.mp 2)) [bZ dt,bS dt,bx l3 (.ptr 0 0 0),aE l4])) (dr ((gI l4 0)==17) (bO (G P1 [bx l3 (.ptr 0 0 0),eM l4 4,cu l0 (.mp 2),bI r1,bK r2]) λ_ dh=>oj 0 l4 17 (bO (G mU [vD (cP dh) (.ptr 0 0 0) [(5,dp dh 4)],aE (nR l4 17 0),bY dh (.mp 2),bZ dh,bS dh]) λ_ ju=>bif fm ju then oj 1 l4 17 (bO (G mU [vD l3 (.ptr 0 0 0) [(10,iI (-1))],aE (nR l4 17 1),bY ju (.mp 2),bZ ju,bS ju]) λ_ cY=>bif fm cY then oj 2 l4 17 (bO (G mU [vD l3 (.ptr 0 0 0) [(10,iI (-1))],aE (nR l4 17 2),bY cY (.mp 2),bZ cY,bS cY]) λ_ eW=>p7 eW (bY eW (.mp 2)) [bZ eW,bS eW,bx l3 (.ptr 0 0 0),aE l4])else p8 (bY cY (.mp 2)) cY [bS cY,bx l3 (.ptr 0 0 0),aE l4])else p8 (bY ju (.mp 2)) ju [bS ju,bx l3 (.ptr 0 0 0),aE l4])) ((gI l4 0)==16) (gw (cu l0 (.mp 2)) (bI r1) (bK r2) [vD l3 (.ptr 0 0 0) [(10,iI (-1))],aE l4]) (dr ((gI l4 0)==7) (bO (G Fu [dp l3 2,eM l4 1]) λ_ lM=>bO (G Fu [dp l3 3,eM l4 1]) λ_ c9=>gw (cu l0 (.mp 2)) (bI r1) (bK r2) [vD l3 (.ptr 0 0 0) [(2,dp lM 0),(3,dp c9 0)],aE l4]) ((gI l4 0)==6) (bO (G Fu [dp l3 6,eM l4 2]) λ_ gM=>gw (cu l0 (.mp 2)) (bI r1) (bK r2) [vD l3 (.ptr 0 0 0) [(6,dp gM 0)],aE l4]) (gw (cu l0 (.mp 2)) (bI r1) (bK r2) [bx l3 (.ptr 0 0 0),aE l4])))):aL):=ac
def avo:bN CX EE G N mU [J l0,J l1,J l2,aw r3,.ae 0 r4]=(bO (Ly G N [acn l2 (7,tt ((gI l2 7)- 1)) [dD (.mp 2)],bI r3,bK r4,bx l0 (.ptr 0 0 0),aE l1]) λq4 o4=>lh q4 (bO (zw G N [jM o4 0 (.mp 2),gL o4 1,kK o4 2,vD (gC o4 3) (.ptr 0 0 0) [(11,tt ((gI (gC o4 3) 11)+1))],aE (gC o4 4)]) λG4 iX=>lh G4 (bO (G VI [fu ud (gC iX 4) 17,ma iX 3 (.ptr 1 0 0),jL iX 0 2 [dD (.mp 3)],gL iX 1,kK iX 2]) λ_ qj=>gJ (dG qj) (jM qj 2 (.mp 2)) (jf qj) [jU qj]) iX [bY iX (.mp 2),bZ iX,bS iX]) o4 [bY o4 (.mp 2),bZ o4,bS o4]:aL):=ac
def ayj:Yu G N [J l0]=(bO (G XX [Ad l0 0]) λ_ o1=>dr (dG o1) (tw (bT l0) []) (cj (gI l0 1) 4) (tw (bT l0) []) (dr (cj 64 (gI l0 1)) (tw (bT l0) []) (cj (qe l0 2) 1) (tw (bT l0) []) (dr (mL 32 l0 2) (tw (bT l0) []) (mL 32 l0 3) (tw (bT l0) []) (oj 0 l0 2 (wO (mL 0 (nR l0 2 0) 1) (tw (bT l0) []) (bT l0) [])))):aL):=ac
def af3:L4 G N (n+1) [jr r0,iI i1,iI i2]=(iC i2 i1 i2 r0 (dr (cj (oI r0 i2) 0) gg (cj 31 (oI r0 i2)) gg (dr (mL 8 (bG r0 i2) 1) gg (cj (gI (bG r0 i2) 23) 0) gg (rk 2147483647 (gI (bG r0 i2) 23) gg (L4 G N n [jr r0,iI i1,cD i2])))) (lK []):aL):=ac
def af4:QX G N [J l0]=(bO (L4 G N N (fu Ix l0 2::nx l0 2::mK [])) λq3 o3=>kv q3 (p7 o3 (bT l0) []) (bT l0) []:aL):=ac
def avm:Xv G N [J l0]=(dr (cj (nh l0) 0) (tw (vd l0) []) (cj 31 (nh l0)) (tw (vd l0) []) (wO (mL 8 l0 2) (tw (vd l0) []) (vd l0) []):aL):=ac
def afa:Fh G N (n+1) [bR r0,iI i1,iI i2,J l3,J l4]=(iC i2 i1 i2 r0 (bO (G Qv [rj l3 [nx l4 2],cp (bG r0 i2)]) λ_ o7=>vC (sR o7 1) [bT l3,vd l4] (bO (G u6 [pH o7]) λ_ o8=>om o8 [bT l3,vd l4] (bO (G Ma [Ad l3 0,jd l4,cp (bG r0 i2)]) λ_ o9=>om o9 [bT l3,vd l4] (Fh G N n [dR r0,iI i1,cD i2,bT l3,vd l4])))) (jH (bT l3) (vd l4) []):aL):=ac
def afB:Ip G N (n+1) [kq r0,iI i1,iI i2,J l3]=(iC i2 i1 i2 r0 (bO (Xv G N [vd (bG r0 i2)]) λq6 o6=>lh q6 (bO (Fh G N N ((iJ (cP o6) 2)::(nx (cP o6) 2)::fQ (bT l3) [vd (cP o6)])) λrD cV=>nc rD cV [nU cV] (Ip G N n [kq r0,iI i1,cD i2,oo cV])) o6 [bT l3]) (xQ (bT l3) []):aL):=ac
def afO:QL G N [J l0]=(bO (Ip G N N (fu Fq l0 3::nx l0 3::fQ (bT l0) [])) λxb dt=>kv xb (p7 dt (nU dt) []) (oo dt) []:aL):=ac
def afA:Io G N (n+1) [jr r0,iI i1,iI i2,J l3,.ae 0 r4,aw r5]=(iC i2 i1 i2 r0 (bO (G mU [ki (.ptr 0 0 0) (iI i2) (jK::jK::jK::jK::jK::cx::cx::cx::(iI (-1))::mK []),lg 2 (bG r0 i2),cu l3 (.mp 2),bI r5,bK r4]) λ_ ju=>om ju [jL ju 1 2 [dD (.mp 1)],bS ju,bZ ju] (Io G N n [jr r0,iI i1,cD i2,jL ju 1 2 [dD (.mp 1)],bS ju,bZ ju])) (jH (lZ l3 2 [dD (.mp 1)]) (bK r4) [bI r5]):aL):=ac
def Xz:Im G N (n+1) [iI i0,iI i1,J l2,.ae 0 r3,aw r4]=(bif cj i1 i0 then bif cj 0 i1 then match aj.dF (aU r3) (iI i1)with|some m15=>(bif m15.toI != 1 then bu [bq,J (sT (bg dM 0 l2) Kh),.ae 0 (bz (aU r3)),aw r4]else Im G N n [iI i0,cD i1,J (sT (bg dM 0 l2) Kh),.ae 0 (bz (aU r3)),aw r4])|none=>(bu [bq,J (sT (bg dM 0 l2) Kh),.ae 0 (bz (aU r3)),aw r4])else Im G N n [iI i0,cD i1,J (sT (bg dM 0 l2) Kh),.ae 0 (bz (aU r3)),aw r4]else lK [J (sT (bg dM 0 l2) Kh),.ae 0 (bz (aU r3)),aw r4]:aL):=ac
def Mk:bN CX EE G N yr [J l0]=(bO (Yu G N [bT l0]) λq2 o2=>bif pT q2 then bO (QX G N [bT (gC o2 0)]) λq4 o4=>bif pT q4 then bO (G Q4 [bT (gC o4 0)]) λ_ o5=>bif !(gB o5 0)then gg else bO (QL G N [bT (gC o4 0)]) λy4 dh=>bif pT y4 then bO (Io G N N [jr (gR (gC dh 0) 2),iI (ln (gR (gC dh 0) 2)),iI 0,J [bl (gR (gC o4 0) 0),iI (-1),bl (gR (gC o4 0) 0),iI (gI (gC o4 0) 1),jr (gR (gC o4 0) 2),kq (gR (gC o4 0) 3),.au 2,iI 8192,.mp 1],.ae 0 (bz (([]:List (AV×AV)))),aw (gR o5 1)]) λy0 cY=>bif pT y0 then bu [aJ (gB cY 0)]else bO (Im G N N [iI (ln (gR (gC dh 0) 2)),iI 0,J (sT (bg dM 0 (gC cY 0)) Kh),.ae 0 (bz (aU (gR cY 1))),aw (gR cY 2)]) λG5 lM=>bif pT G5 then bu [aJ (gB lM 0)]else fa else bu [aJ (gB dh 0)]else bu [aJ (gB o4 0)]else bu [aJ (gB o2 0)]:aL):=ac
def axb:bN CX EE G N XU [iI i0]=(bf (cQ i0)<|kI (.str (J6 i0)):aL):=ac
def azp:bN CX EE G N jE [iI i0]=(bO (G XU [iI i0]) λ_ o1=>kI (.str (gS o1 0)):aL):=ac
def afN:QK G N (n+1) [.str s0,aM r1,iI i2,iI i3]=(bif cj i3 i2 then fb i3 r1<|bO (G jE [iI (gI (bG r1 i3) 0)]) λ_ o1=>cC ((⟨#[32]⟩:ByteArray)) (gS o1 0) λz2=>cC s0 z2 λz3=>QK G N n [.str z3,aM r1,iI i2,cD i3]else bu [.str s0]:aL):=ac
def ayT:bN CX EE G N zA [aM r0]=(bO (QK G N N (.str ByteArray.empty::c8 r0::oK r0::mK [])) λ_ o4=>kI (.str (gS o4 0)):aL):=ac
def av0:bN CX EE G N Qn [.str s0,iI i1]=(bf (((da 0 i1)&&(cj i1 140737488355328))&&(uJ ((JW s0)*i1.toNat) 140737488355328))<|kI (.str (acO s0 i1.toNat)):aL):=ac
def arp:bN CX EE G N aen [J l0,aX r1]=(jb (iB (.ptr 0 0 0) 1 [iA l0]) (mA r1):aL):=ac
def arh:bN CX EE G N V4 [.str s0,J l1,aX r2]=(bO (G aen [iB .jh 1 [iA l1],mA r2]) λ_ o1=>bf (uJ (((gR o1 1).length +(T4 s0).length)*1) 140737488355328)<|gw (iI (s0.size:Int)) (iB (.ptr 0 0 0) 2 [iA (cP o1)]) (mA ((gR o1 1)++(T4 s0))) []:aL):=ac
def ael:bN CX EE G N V3 [J l0,aX r1]=(jb (iB (.ptr 0 0 0) 1 [iA l0]) (mA r1):aL):=ac
def ard:bN CX EE G N Ll [.str s0,J l1,aX r2]=(bO (G V3 [iB (.ptr 0 0 0) 1 [iA l1],mA r2]) λ_ o1=>bf (uJ (((gR o1 1).length +(T4 s0).length)*1) 140737488355328)<|gw (iI (s0.size:Int)) (iB (.ptr 0 0 0) 2 [iA (cP o1)]) (mA ((gR o1 1)++(T4 s0))) []:aL):=ac
def arq:bN CX EE G N PJ [cE i0,J l1,aX r2]=(bO (G V3 [iB (.ptr 0 0 0) 1 [iA l1],mA r2]) λ_ o1=>bf (uJ (((gR o1 1).length +1)*1) 140737488355328)<|jb (iB (.ptr 0 0 0) 2 [iA (cP o1)]) (mA ((gR o1 1)++([[mf i0]]:aY))):aL):=ac
def aeI:Lv G N (n+1) [e7 r0,iI i1,iI i2,J l3,aX r4]=(eL (cj i2 i1) (fb i2 r0 (bO (G Ll [.str (gS (bG r0 i2) 0),iB (.ptr 0 0 0) 1 [iA l3],mA r4]) λ_ o3=>Lv G N n [e7 r0,iI i1,cD i2,iB (.ptr 0 0 0) 2 [iA (dJ o3)],fu sF o3 2])) (iB (.ptr 0 0 0) 2 [iA l3]) (mA r4) []:aL):=ac
def auP:bN CX EE G N Qa [iI i0,e7 r1,J l2,aX r3]=(bO (G Qn [.str ((⟨#[32,32]⟩:ByteArray)),iI i0]) λ_ o1=>bO (G V4 [.str (gS o1 0),J [.jh,.au 1,bl (gR l2 2)],aX r3]) λ_ o2=>bO (Lv G N N [e7 r1,iI (ln r1),iI 0,J [.ptr 0 0 0,.au 2,bl (gR (gC o2 1) 2)],aX (gR o2 2)]) λ_ o4=>bO (G PJ [cE 10,J [.ptr 0 0 0,.au 1,bl (gR (gC o4 0) 2)],aX (gR o4 1)]) λ_ o5=>bu [J [.ptr 0 0 0,.au 2,bl (gR (gC o5 0) 2)],aX (gR o5 1)]:aL):=ac
def aeu:Lp G N (n+1) [e7 r0,iI i1,iI i2,J l3,aX r4]=(eL (cj i2 i1) (fb i2 r0 (bO (G Ll [.str (gS (bG r0 i2) 0),iB (.ptr 0 0 0) 1 [iA l3],mA r4]) λ_ o3=>Lp G N n [e7 r0,iI i1,cD i2,iB (.ptr 0 0 0) 2 [iA (dJ o3)],fu sF o3 2])) (iB (.ptr 0 0 0) 2 [iA l3]) (mA r4) []:aL):=ac
def ate:bN CX EE G N sw [iI i0,e7 r1,J l2,aX r3]=(bO (G Qn [.str ((⟨#[32,32]⟩:ByteArray)),iI i0]) λ_ o1=>bO (G Ll [.str (gS o1 0),J [.ptr 0 0 0,.au 1,bl (gR l2 2)],aX r3]) λ_ o2=>bO (Lp G N N [e7 r1,iI (ln r1),iI 0,J [.ptr 0 0 0,.au 2,bl (gR (gC o2 1) 2)],aX (gR o2 2)]) λ_ o4=>bO (G PJ [cE 10,J [.ptr 0 0 0,.au 1,bl (gR (gC o4 0) 2)],aX (gR o4 1)]) λ_ o5=>bu [J [.ptr 0 0 0,.au 2,bl (gR (gC o5 0) 2)],aX (gR o5 1)]:aL):=ac
def aug:bN CX EE G N W3 [iI i0,iI i1]=(bf (cQ i0&&decide (i1=10))<|bu [.str (J6 i0)]:aL):=ac
def azr:bN CX EE G N xy [iI i0]=(bO (G W3 [iI i0,iI 10]) λ_ o1=>kI (.str (gS o1 0)):aL):=ac
def auo:bN CX EE G N P2 [iI i0,iI i1,J l2,aX r3]=(fb i0 (gR l2 2)<|bif gI (bG (gR l2 2) i0) 0==1 then bO (G jE [iI i0]) λ_ o1=>cC ((⟨#[111]⟩:ByteArray)) (gS o1 0) λz2=>bu [.str z2,J [.ptr 0 0 0,.au 1,bl (gR l2 2)],aX r3]else bO (G jE [iI i0]) λ_ o3=>cC ((⟨#[111]⟩:ByteArray)) (gS o3 0) λz4=>cC z4 ((⟨#[46]⟩:ByteArray)) λz5=>bO (G jE [iI i1]) λ_ o6=>cC z5 (gS o6 0) λz7=>bu [.str z7,J [.ptr 0 0 0,.au 1,bl (gR l2 2)],aX r3]:aL):=ac
def axQ:bN CX EE G N QO [cE i0]=(bf ((da 0 i0)&&(cj i0 19))<|kI (.str (UY i0.toNat)):aL):=ac
def axa:bN CX EE G N LV [e7 r0,.str s1]=(Ur r0 s1 λz=>kI (.str z):aL):=ac
def aeA:H2 G N (n+1) [bR r0,iI i1,iI i2,J l3,aX r4,e7 r5]=(eL (cj i2 i1) (fb i2 r0 (bO (G pC [cp (bG r0 i2),iB (.ptr 0 0 0) 1 [iA l3],mA r4]) λ_ o1=>fb i2 r5<|bf (iv i2.toNat r5.length)<|H2 G N n [dR r0,iI i1,cD i2,iB (.ptr 0 0 0) 1 [iA (dJ o1)],fu sF o1 2,e7 (r5.set i2.toNat (setAt (bG r5 i2) 0 [.str (gS o1 0)]))])) (iB (.ptr 0 0 0) 1 [iA l3]) (mA r4) [e7 r5]:aL):=ac
def asz:Wu G N [J l0,aX r1,J l2,e7 r3]=(bO (H2 G N N (iJ l2 8::nx l2 8::fQ (iB (.ptr 0 0 0) 1 [iA l0]) [mA r1,e7 r3])) λ_ o2=>gw (iB (.ptr 0 0 0) 1 [iA (cP o2)]) (fu sF o2 1) (cp l2) [fu RT o2 2]:aL):=ac
end
noncomputable section
variable {G:Nat->ak->Option UO} {N n:Nat} {b0:Bool} {s1:ByteArray} {i0 i1 i2 i3:Int} {l0 l1 l2 l3 l4:ak} {r0 r1 r2 r3 r4 r5:aY}
def u5:bN CX EE G N pC [J l0,J l1,aX r2]=(bf (da 0 (ln (gR l0 8))&&da (ln (gR l0 8)) (ln (gR l0 8))&&da ((ln (gR l0 8))*16) 140737488355328)<|bO (Wu G N [J [.ptr 0 0 0,.au 1,bl (gR l1 2)],aX r2,cp l0,e7 (List.replicate ((ln (gR l0 8)).toNat) ([.str ByteArray.empty]:Row))]) λ_ o3=>bif gI (gC o3 2) 0==1 then bO (G xy [iI (gI (gC o3 2) 2)]) λ_ o4=>bu [.str (gS o4 0),J [.ptr 0 0 0,.au 1,bl (gR (gC o3 0) 2)],aX (gR o3 1)]else bif gI (gC o3 2) 0==2 then bO (G P2 [iI (gI (gC o3 2) 3),iI (gI (gC o3 2) 4),J [.ptr 0 0 0,.au 1,bl (gR (gC o3 0) 2)],aX (gR o3 1)]) λ_ o5=>bu [.str (gS o5 0),J [.ptr 0 0 0,.au 1,bl (gR (gC o5 1) 2)],aX (gR o5 2)]else bif gI (gC o3 2) 0==3 then bO (G jE [iI (gI (gC o3 2) 3)]) λ_ o6=>cC ((⟨#[111]⟩:ByteArray)) (gS o6 0) λz7=>cC z7 ((⟨#[91]⟩:ByteArray)) λz8=>bO (G jE [iI (gI (gC o3 2) 4)]) λ_ o9=>cC z8 (gS o9 0) λOt=>cC Ot ((⟨#[58]⟩:ByteArray)) λz11=>bO (G jE [iI (gI (gC o3 2) 5)]) λ_ dh=>cC z11 (gS dh 0) λOq=>cC Oq ((⟨#[32]⟩:ByteArray)) λz14=>bf (cj 0 (ln (gR o3 3)))<|bf (iv 0 ((gR o3 3).length))<|cC z14 (gS (gA (gR o3 3) 0) 0) λOo=>cC Oo ((⟨#[93]⟩:ByteArray)) λz16=>bu [.str z16,J [.ptr 0 0 0,.au 1,bl (gR (gC o3 0) 2)],aX (gR o3 1)]else bif gI (gC o3 2) 0==4 then bO (G QO [cE (gI (gC o3 2) 1)]) λ_ c9=>cC ((⟨#[40]⟩:ByteArray)) (gS c9 0) λz18=>cC z18 ((⟨#[32]⟩:ByteArray)) λz19=>bf (cj 0 (ln (gR o3 3)))<|bf (iv 0 ((gR o3 3).length))<|cC z19 (gS (gA (gR o3 3) 0) 0) λz20=>cC z20 ((⟨#[41]⟩:ByteArray)) λz21=>bu [.str z21,J [.ptr 0 0 0,.au 1,bl (gR (gC o3 0) 2)],aX (gR o3 1)]else bif gI (gC o3 2) 0==5 then bf (cj 0 (ln (gR o3 3)))<|bf (iv 0 ((gR o3 3).length))<|cC ((⟨#[40]⟩:ByteArray)) (gS (gA (gR o3 3) 0) 0) λz22=>cC z22 ((⟨#[32]⟩:ByteArray)) λz23=>bO (G QO [cE (gI (gC o3 2) 1)]) λ_ jA=>cC z23 (gS jA 0) λz25=>cC z25 ((⟨#[32]⟩:ByteArray)) λz26=>bf (cj 1 (ln (gR o3 3)))<|bf (iv 1 ((gR o3 3).length))<|cC z26 (gS (gA (gR o3 3) 1) 0) λz27=>cC z27 ((⟨#[41]⟩:ByteArray)) λz28=>bu [.str z28,J [.ptr 0 0 0,.au 1,bl (gR (gC o3 0) 2)],aX (gR o3 1)]else bif gI (gC o3 2) 0==6 then bf (cj 0 (ln (gR o3 3)))<|bf (iv 0 ((gR o3 3).length))<|cC ((⟨#[40]⟩:ByteArray)) (gS (gA (gR o3 3) 0) 0) λz29=>cC z29 ((⟨#[32,116,104,101,110,32]⟩:ByteArray)) λz30=>bf (cj 1 (ln (gR o3 3)))<|bf (iv 1 ((gR o3 3).length))<|cC z30 (gS (gA (gR o3 3) 1) 0) λz31=>cC z31 ((⟨#[41]⟩:ByteArray)) λz32=>bu [.str z32,J [.ptr 0 0 0,.au 1,bl (gR (gC o3 0) 2)],aX (gR o3 1)]else bif gI (gC o3 2) 0==7 then bf (cj 0 (ln (gR o3 3)))<|bf (iv 0 ((gR o3 3).length))<|cC ((⟨#[40]⟩:ByteArray)) (gS (gA (gR o3 3) 0) 0) λz33=>cC z33 ((⟨#[32,101,108,115,101,32]⟩:ByteArray)) λz34=>bf (cj 1 (ln (gR o3 3)))<|bf (iv 1 ((gR o3 3).length))<|cC z34 (gS (gA (gR o3 3) 1) 0) λz35=>cC z35 ((⟨#[41]⟩:ByteArray)) λz36=>bu [.str z36,J [.ptr 0 0 0,.au 1,bl (gR (gC o3 0) 2)],aX (gR o3 1)]else bif gI (gC o3 2) 0==8 then bO (G LV [e7 (gR o3 3),.str ((⟨#[44,32]⟩:ByteArray))]) λ_ Ew=>cC ((⟨#[40,105,102,32]⟩:ByteArray)) (gS Ew 0) λz38=>cC z38 ((⟨#[41]⟩:ByteArray)) λz39=>bu [.str z39,J [.ptr 0 0 0,.au 1,bl (gR (gC o3 0) 2)],aX (gR o3 1)]else bif gI (gC o3 2) 0==9 then bO (G xy [iI (gI (gC o3 2) 6)]) λ_ KA=>cC ((⟨#[91]⟩:ByteArray)) (gS KA 0) λz41=>cC z41 ((⟨#[46,46]⟩:ByteArray)) λz42=>bO (G xy [iI (gI (gC o3 2) 7)]) λ_ U1=>cC z42 (gS U1 0) λz44=>cC z44 ((⟨#[32]⟩:ByteArray)) λz45=>bf (cj 0 (ln (gR o3 3)))<|bf (iv 0 ((gR o3 3).length))<|cC z45 (gS (gA (gR o3 3) 0) 0) λz46=>cC z46 ((⟨#[93]⟩:ByteArray)) λz47=>bu [.str z47,J [.ptr 0 0 0,.au 1,bl (gR (gC o3 0) 2)],aX (gR o3 1)]else bif gI (gC o3 2) 0==10 then bf (cj 0 (ln (gR o3 3)))<|bf (iv 0 ((gR o3 3).length))<|cC ((⟨#[40,108,101,116,32]⟩:ByteArray)) (gS (gA (gR o3 3) 0) 0) λz48=>cC z48 ((⟨#[32,105,110,32]⟩:ByteArray)) λz49=>bf (cj 1 (ln (gR o3 3)))<|bf (iv 1 ((gR o3 3).length))<|cC z49 (gS (gA (gR o3 3) 1) 0) λz50=>cC z50 ((⟨#[41]⟩:ByteArray)) λz51=>bu [.str z51,J [.ptr 0 0 0,.au 1,bl (gR (gC o3 0) 2)],aX (gR o3 1)]else bif gI (gC o3 2) 0==11 then bO (G xy [iI (gI (gC o3 2) 2)]) λ_ AD=>cC ((⟨#[36]⟩:ByteArray)) (gS AD 0) λz53=>bu [.str z53,J [.ptr 0 0 0,.au 1,bl (gR (gC o3 0) 2)],aX (gR o3 1)]else bif gI (gC o3 2) 0==12 then bO (G jE [iI (gI (gC o3 2) 3)]) λ_ OJ=>cC ((⟨#[38]⟩:ByteArray)) (gS OJ 0) λz55=>bu [.str z55,J [.ptr 0 0 0,.au 1,bl (gR (gC o3 0) 2)],aX (gR o3 1)]else bif gI (gC o3 2) 0==13 then bf (cj 0 (ln (gR o3 3)))<|bf (iv 0 ((gR o3 3).length))<|cC ((⟨#[64]⟩:ByteArray)) (gS (gA (gR o3 3) 0) 0) λz56=>bu [.str z56,J [.ptr 0 0 0,.au 1,bl (gR (gC o3 0) 2)],aX (gR o3 1)]else bO (G xy [iI (gI (gC o3 2) 2)]) λ_ o57=>cC ((⟨#[35]⟩:ByteArray)) (gS o57 0) λz58=>bu [.str z58,J [.ptr 0 0 0,.au 1,bl (gR (gC o3 0) 2)],aX (gR o3 1)]:aL):=ac
def Wx:bN CX EE G N CG [J l0,J l1,aX r2]=(bif gI l0 0==1 then bO (G P2 [iI (gI l0 1),iI (gI l0 2),J [.ptr 0 0 0,.au 1,bl (gR l1 2)],aX r2]) λ_ o1=>bu [.str (gS o1 0),J [.ptr 0 0 0,.au 1,bl (gR (gC o1 1) 2)],aX (gR o1 2)]else bif gI l0 0==2 then bO (G jE [iI (gI l0 1)]) λ_ o2=>cC ((⟨#[111]⟩:ByteArray)) (gS o2 0) λz3=>cC z3 ((⟨#[91]⟩:ByteArray)) λz4=>bO (G jE [iI (gI l0 2)]) λ_ o5=>cC z4 (gS o5 0) λz6=>cC z6 ((⟨#[58]⟩:ByteArray)) λz7=>bO (G jE [iI (gI l0 3)]) λ_ o8=>cC z7 (gS o8 0) λz9=>cC z9 ((⟨#[32]⟩:ByteArray)) λOt=>bf (cj 0 (ln (gR l0 4)))<|bO (G pC [cp (gA (gR l0 4) 0),J [.ptr 0 0 0,.au 1,bl (gR l1 2)],aX r2]) λ_ dt=>cC Ot (gS dt 0) λz12=>cC z12 ((⟨#[93]⟩:ByteArray)) λOq=>bu [.str Oq,J [.ptr 0 0 0,.au 1,bl (gR (gC dt 1) 2)],aX (gR dt 2)]else bf (cj 0 (ln (gR l0 4)))<|bO (G pC [cp (gA (gR l0 4) 0),J [.ptr 0 0 0,.au 1,bl (gR l1 2)],aX r2]) λ_ cY=>cC ((⟨#[64]⟩:ByteArray)) (gS cY 0) λOo=>bu [.str Oo,J [.ptr 0 0 0,.au 1,bl (gR (gC cY 1) 2)],aX (gR cY 2)]:aL):=ac
def agL:bN CX EE G N zz [aJ b0,.str s1]=(wO b0 (kI (.str s1)) (.str ByteArray.empty) []:aL):=ac
def PW:bN CX EE G N LB [J l0,J l1,aX r2]=(bif gI l0 11==1 then bu [.str ((⟨#[32,101,108,115,101]⟩:ByteArray)),J [.ptr 0 0 0,.au 1,bl (gR l1 2)],aX r2]else bif gI l0 11==2 then bf (cj 0 (ln (gR l0 12)))<|bO (G pC [cp (gA (gR l0 12) 0),J [.ptr 0 0 0,.au 1,bl (gR l1 2)],aX r2]) λ_ o1=>cC ((⟨#[32,111,114,32]⟩:ByteArray)) (gS o1 0) λz2=>bu [.str z2,J [.ptr 0 0 0,.au 1,bl (gR (gC o1 1) 2)],aX (gR o1 2)]else bif gI l0 11==3 then bf (cj 0 (ln (gR l0 12)))<|bO (G pC [cp (gA (gR l0 12) 0),J [.ptr 0 0 0,.au 1,bl (gR l1 2)],aX r2]) λ_ o3=>cC ((⟨#[32,117,110,116,105,108,32]⟩:ByteArray)) (gS o3 0) λz4=>bu [.str z4,J [.ptr 0 0 0,.au 1,bl (gR (gC o3 1) 2)],aX (gR o3 2)]else bu [.str ByteArray.empty,J [.ptr 0 0 0,.au 1,bl (gR l1 2)],aX r2]:aL):=ac
def aej:Lk G N (n+1) [bR r0,iI i1,iI i2,J l3,aX r4,e7 r5]=(eL (cj i2 i1) (fb i2 r0 (bO (G pC [cp (bG r0 i2),iB (.ptr 0 0 0) 1 [iA l3],mA r4]) λ_ o50=>bf (uJ ((r5.length+1)*16) 140737488355328)<|Lk G N n [dR r0,iI i1,cD i2,iB (.ptr 0 0 0) 1 [iA (dJ o50)],fu sF o50 2,e7 (r5++([[.str (gS o50 0)]]:aY))])) (iB (.ptr 0 0 0) 1 [iA l3]) (mA r4) [e7 r5]:aL):=ac
def arc:aek G N [J l0,aX r1,J l2,e7 r3]=(bO (Lk G N N (iJ l2 13::nx l2 13::fQ (iB (.ptr 0 0 0) 1 [iA l0]) [mA r1,e7 r3])) λ_ o51=>gw (iB (.ptr 0 0 0) 1 [iA (cP o51)]) (fu sF o51 1) (aE l2) [fu RT o51 2]:aL):=ac
def aei:Lj G N (n+1) [dj r0,iI i1,iI i2,J l3,aX r4,e7 r5]=(eL (cj i2 i1) (fb i2 r0 (bO (G CG [jq (bG r0 i2),iB (.ptr 0 0 0) 1 [iA l3],mA r4]) λ_ o53=>bf (uJ ((r5.length+1)*16) 140737488355328)<|Lj G N n [jV r0,iI i1,cD i2,iB (.ptr 0 0 0) 1 [iA (dJ o53)],fu sF o53 2,e7 (r5++([[.str (gS o53 0)]]:aY))])) (iB (.ptr 0 0 0) 1 [iA l3]) (mA r4) [e7 r5]:aL):=ac
def pB:bN CX EE G N oU [J l0,J l1,aX r2]=(bif gI l0 0==1 then bu [.str ((⟨#[110,117,108,108]⟩:ByteArray)),J [.ptr 0 0 0,.au 1,bl (gR l1 2)],aX r2]else bif gI l0 0==2 then bf (cj 0 (ln (gR l0 14)))<|bO (G CG [jq (gA (gR l0 14) 0),J [.ptr 0 0 0,.au 1,bl (gR l1 2)],aX r2]) λ_ o1=>cC (gS o1 0) ((⟨#[32,58,61,32]⟩:ByteArray)) λz2=>bf (cj 0 (ln (gR l0 12)))<|bO (G pC [cp (gA (gR l0 12) 0),J [.ptr 0 0 0,.au 1,bl (gR (gC o1 1) 2)],aX (gR o1 2)]) λ_ o3=>cC z2 (gS o3 0) λz4=>bu [.str z4,J [.ptr 0 0 0,.au 1,bl (gR (gC o3 1) 2)],aX (gR o3 2)]else bif gI l0 0==3 then bu [.str ((⟨#[115,101,113]⟩:ByteArray)),J [.ptr 0 0 0,.au 1,bl (gR l1 2)],aX r2]else bif gI l0 0==4 then bf (cj 0 (ln (gR l0 12)))<|bO (G pC [cp (gA (gR l0 12) 0),J [.ptr 0 0 0,.au 1,bl (gR l1 2)],aX r2]) λ_ o5=>cC ((⟨#[105,102,32]⟩:ByteArray)) (gS o5 0) λz6=>bu [.str z6,J [.ptr 0 0 0,.au 1,bl (gR (gC o5 1) 2)],aX (gR o5 2)]else bif gI l0 0==5 then bf (cj 0 (ln (gR l0 12)))<|bO (G pC [cp (gA (gR l0 12) 0),J [.ptr 0 0 0,.au 1,bl (gR l1 2)],aX r2]) λ_ o7=>cC ((⟨#[119,104,105,108,101,32]⟩:ByteArray)) (gS o7 0) λz8=>bu [.str z8,J [.ptr 0 0 0,.au 1,bl (gR (gC o7 1) 2)],aX (gR o7 2)]else bif gI l0 0==6 then bO (G jE [iI (gI l0 2)]) λ_ o9=>cC ((⟨#[102,111,114,32,111]⟩:ByteArray)) (gS o9 0) λOt=>cC Ot ((⟨#[32,105,110,32]⟩:ByteArray)) λz11=>bO (G zz [aJ (gB l0 7),.str ((⟨#[114,101,118,101,114,115,101,32]⟩:ByteArray))]) λ_ dh=>cC z11 (gS dh 0) λOq=>bf (cj 0 (ln (gR l0 12)))<|bO (G pC [cp (gA (gR l0 12) 0),J [.ptr 0 0 0,.au 1,bl (gR l1 2)],aX r2]) λ_ cY=>cC Oq (gS cY 0) λOo=>cC Oo ((⟨#[32,46,46,32]⟩:ByteArray)) λz16=>bf (cj 1 (ln (gR l0 12)))<|bO (G pC [cp (gA (gR l0 12) 1),J [.ptr 0 0 0,.au 1,bl (gR (gC cY 1) 2)],aX (gR cY 2)]) λ_ c9=>cC z16 (gS c9 0) λz18=>bu [.str z18,J [.ptr 0 0 0,.au 1,bl (gR (gC c9 1) 2)],aX (gR c9 2)]else bif gI l0 0==7 then bO (G jE [iI (gI l0 1)]) λ_ iX=>cC ((⟨#[109,97,114,107,32]⟩:ByteArray)) (gS iX 0) λz20=>bu [.str z20,J [.ptr 0 0 0,.au 1,bl (gR l1 2)],aX r2]else bif gI l0 0==8 then bO (G jE [iI (gI l0 1)]) λ_ jo=>cC ((⟨#[108,101,97,118,101,32]⟩:ByteArray)) (gS jo 0) λz22=>bu [.str z22,J [.ptr 0 0 0,.au 1,bl (gR l1 2)],aX r2]else bif gI l0 0==9 then bO (G zA [aM (gR l0 16)]) λ_ sZ=>cC ((⟨#[32,116,97,115,107,115]⟩:ByteArray)) (gS sZ 0) λz24=>bO (G zz [aJ (cj 0 (ln (gR l0 16))),.str z24]) λ_ y6=>cC ((⟨#[115,99,111,112,101]⟩:ByteArray)) (gS y6 0) λz26=>bu [.str z26,J [.ptr 0 0 0,.au 1,bl (gR l1 2)],aX r2]else bif gI l0 0==10 then bO (G jE [iI (gI l0 1)]) λ_ EA=>cC ((⟨#[32]⟩:ByteArray)) (gS EA 0) λz28=>bO (G zz [aJ (cj 0 (gI l0 1)),.str z28]) λ_ Hc=>cC ((⟨#[114,97,105,115,101]⟩:ByteArray)) (gS Hc 0) λz30=>bu [.str z30,J [.ptr 0 0 0,.au 1,bl (gR l1 2)],aX r2]else bif gI l0 0==11 then bf (cj 0 (ln (gR l0 12)))<|bO (G pC [cp (gA (gR l0 12) 0),J [.ptr 0 0 0,.au 1,bl (gR l1 2)],aX r2]) λ_ Ez=>cC ((⟨#[112,117,116,32]⟩:ByteArray)) (gS Ez 0) λz32=>bu [.str z32,J [.ptr 0 0 0,.au 1,bl (gR (gC Ez 1) 2)],aX (gR Ez 2)]else bif gI l0 0==12 then bf (cj 0 (ln (gR l0 14)))<|bO (G CG [jq (gA (gR l0 14) 0),J [.ptr 0 0 0,.au 1,bl (gR l1 2)],aX r2]) λ_ Ey=>cC ((⟨#[103,101,116,32]⟩:ByteArray)) (gS Ey 0) λz34=>bu [.str z34,J [.ptr 0 0 0,.au 1,bl (gR (gC Ey 1) 2)],aX (gR Ey 2)]else bif gI l0 0==13 then bf (cj 0 (ln (gR l0 14)))<|bO (G CG [jq (gA (gR l0 14) 0),J [.ptr 0 0 0,.au 1,bl (gR l1 2)],aX r2]) λ_ OK=>cC ((⟨#[99,108,111,99,107,32]⟩:ByteArray)) (gS OK 0) λz36=>bu [.str z36,J [.ptr 0 0 0,.au 1,bl (gR (gC OK 1) 2)],aX (gR OK 2)]else bif gI l0 0==14 then bf (cj 0 (ln (gR l0 14)))<|bO (G CG [jq (gA (gR l0 14) 0),J [.ptr 0 0 0,.au 1,bl (gR l1 2)],aX r2]) λ_ Ew=>cC ((⟨#[99,111,117,110,116,32]⟩:ByteArray)) (gS Ew 0) λz38=>cC z38 ((⟨#[32]⟩:ByteArray)) λz39=>bO (G jE [iI (gI l0 5)]) λ_ KA=>cC z39 (gS KA 0) λz41=>bO (G jE [iI (gI l0 4)]) λ_ U2=>cC ((⟨#[32,111,102,32]⟩:ByteArray)) (gS U2 0) λz43=>bO (G zz [aJ (gB l0 6),.str z43]) λ_ o44=>cC z41 (gS o44 0) λz45=>bu [.str z45,J [.ptr 0 0 0,.au 1,bl (gR (gC Ew 1) 2)],aX (gR Ew 2)]else bif gI l0 0==15 then bO (G zz [aJ (gB l0 8),.str ((⟨#[117,110,116,105,108,32]⟩:ByteArray))]) λ_ o46=>cC ((⟨#[100,101,108,97,121,32]⟩:ByteArray)) (gS o46 0) λz47=>bf (cj 0 (ln (gR l0 12)))<|bO (G pC [cp (gA (gR l0 12) 0),J [.ptr 0 0 0,.au 1,bl (gR l1 2)],aX r2]) λ_ o48=>cC z47 (gS o48 0) λz49=>bu [.str z49,J [.ptr 0 0 0,.au 1,bl (gR (gC o48 1) 2)],aX (gR o48 2)]else bif gI l0 0==16 then bO (aek G N [J [.ptr 0 0 0,.au 1,bl (gR l1 2)],aX r2,aE l0,e7 gX]) λ_ AD=>bO (Lj G N N [dj (gR (gC AD 2) 15),iI (ln (gR (gC AD 2) 15)),iI 0,J [.ptr 0 0 0,.au 1,bl (gR (gC AD 0) 2)],aX (gR AD 1),e7 gX]) λ_ OJ=>bO (G jE [iI (gI (gC AD 2) 3)]) λ_ o55=>cC ((⟨#[99,97,108,108,32]⟩:ByteArray)) (gS o55 0) λz56=>cC z56 ((⟨#[46]⟩:ByteArray)) λz57=>bO (G jE [iI (gI (gC AD 2) 5)]) λ_ o58=>cC z57 (gS o58 0) λz59=>cC z59 ((⟨#[32,40]⟩:ByteArray)) λz60=>bO (G LV [e7 (gR AD 3),.str ((⟨#[44,32]⟩:ByteArray))]) λ_ o61=>cC z60 (gS o61 0) λz62=>cC z62 ((⟨#[32,45,62,32]⟩:ByteArray)) λz63=>bO (G LV [e7 (gR OJ 2),.str ((⟨#[44,32]⟩:ByteArray))]) λ_ o64=>cC z63 (gS o64 0) λz65=>cC z65 ((⟨#[41]⟩:ByteArray)) λz66=>bO (G LB [aE (gC AD 2),J [.ptr 0 0 0,.au 1,bl (gR (gC OJ 0) 2)],aX (gR OJ 1)]) λ_ o67=>cC z66 (gS o67 0) λz68=>bu [.str z68,J [.ptr 0 0 0,.au 1,bl (gR (gC o67 1) 2)],aX (gR o67 2)]else bif gI l0 0==17 then bO (G jE [iI (gI l0 4)]) λ_ o69=>cC ((⟨#[112,101,110,116,114,121,32]⟩:ByteArray)) (gS o69 0) λz70=>cC z70 ((⟨#[46]⟩:ByteArray)) λz71=>bO (G jE [iI (gI l0 5)]) λ_ o72=>cC z71 (gS o72 0) λz73=>bO (G LB [aE l0,J [.ptr 0 0 0,.au 1,bl (gR l1 2)],aX r2]) λ_ o74=>cC z73 (gS o74 0) λz75=>bu [.str z75,J [.ptr 0 0 0,.au 1,bl (gR (gC o74 1) 2)],aX (gR o74 2)]else bif gI l0 0==18 then bO (G jE [iI (gI l0 5)]) λ_ o76=>cC ((⟨#[97,99,99,101,112,116,32]⟩:ByteArray)) (gS o76 0) λz77=>bu [.str z77,J [.ptr 0 0 0,.au 1,bl (gR l1 2)],aX r2]else bif gI l0 0==19 then bO (G zz [aJ (gB l0 9),.str ((⟨#[32,101,108,115,101]⟩:ByteArray))]) λ_ o78=>cC ((⟨#[115,101,108,101,99,116]⟩:ByteArray)) (gS o78 0) λz79=>bu [.str z79,J [.ptr 0 0 0,.au 1,bl (gR l1 2)],aX r2]else bif gI l0 0==20 then bO (G jE [iI (gI l0 4)]) λ_ o80=>cC ((⟨#[108,111,99,107,101,100,32]⟩:ByteArray)) (gS o80 0) λz81=>bu [.str z81,J [.ptr 0 0 0,.au 1,bl (gR l1 2)],aX r2]else bif gI l0 0==21 then bO (G jE [iI (gI l0 3)]) λ_ o82=>cC ((⟨#[114,101,113,117,101,117,101,32]⟩:ByteArray)) (gS o82 0) λz83=>cC z83 ((⟨#[46]⟩:ByteArray)) λz84=>bO (G jE [iI (gI l0 5)]) λ_ o85=>cC z84 (gS o85 0) λz86=>bO (G zz [aJ (gB l0 10),.str ((⟨#[32,97,98,111,114,116]⟩:ByteArray))]) λ_ o87=>cC z86 (gS o87 0) λz88=>bu [.str z88,J [.ptr 0 0 0,.au 1,bl (gR l1 2)],aX r2]else bO (G zA [aM (gR l0 16)]) λ_ o89=>cC ((⟨#[97,98,111,114,116]⟩:ByteArray)) (gS o89 0) λz90=>bu [.str z90,J [.ptr 0 0 0,.au 1,bl (gR l1 2)],aX r2]:aL):=ac
def P3:bN CX EE G N Xf [J l0,J l1,aX r2]=(bif gI l0 0==1 then bO (G jE [iI (gI l0 10)]) λ_ o1=>cC ((⟨#[32,97,99,99,101,112,116,32]⟩:ByteArray)) (gS o1 0) λz2=>bu [.str z2,J [.ptr 0 0 0,.au 1,bl (gR l1 2)],aX r2]else bif gI l0 0==2 then bf (cj 0 (ln (gR l0 11)))<|bO (G pC [cp (gA (gR l0 11) 0),J [.ptr 0 0 0,.au 1,bl (gR l1 2)],aX r2]) λ_ o3=>cC ((⟨#[32,100,101,108,97,121,32]⟩:ByteArray)) (gS o3 0) λz4=>bu [.str z4,J [.ptr 0 0 0,.au 1,bl (gR (gC o3 1) 2)],aX (gR o3 2)]else bif gI l0 0==3 then bf (cj 0 (ln (gR l0 11)))<|bO (G pC [cp (gA (gR l0 11) 0),J [.ptr 0 0 0,.au 1,bl (gR l1 2)],aX r2]) λ_ o5=>cC ((⟨#[32,117,110,116,105,108,32]⟩:ByteArray)) (gS o5 0) λz6=>bu [.str z6,J [.ptr 0 0 0,.au 1,bl (gR (gC o5 1) 2)],aX (gR o5 2)]else bu [.str ((⟨#[32,116,101,114,109,105,110,97,116,101]⟩:ByteArray)),J [.ptr 0 0 0,.au 1,bl (gR l1 2)],aX r2]:aL):=ac
def aet:HZ G N (n+1) [iI i0,gN r1,iI i2,iI i3,J l4,aX r5]=(bif cj i3 i2 then fb i3 r1<|bO (G sw [cD i0,e7 (([[.str ((⟨#[100,111]⟩:ByteArray))]]:aY)),J [.ptr 0 0 0,.au 1,bl (gR l4 2)],aX r5]) λ_ o3=>bO (G xw [iI (bH (i0+2)),aE (bG r1 i3),J [.ptr 0 0 0,.au 1,bl (gR (gC o3 0) 2)],aX (gR o3 1)]) λ_ o4=>bif gI (bG r1 i3) 21 != 1 then bO (G sw [cD i0,e7 (([[.str ((⟨#[117,110,100,111]⟩:ByteArray))]]:aY)),J [.ptr 0 0 0,.au 1,bl (gR (gC o4 0) 2)],aX (gR o4 1)]) λ_ o5=>bO (G xw [iI (bH (i0+2)),J (bg fU 21 (bG r1 i3)),J [.ptr 0 0 0,.au 1,bl (gR (gC o5 0) 2)],aX (gR o5 1)]) λ_ o6=>HZ G N n [iI i0,gN r1,iI i2,cD i3,J [.ptr 0 0 0,.au 2,bl (gR (gC o6 0) 2)],aX (gR o6 1)]else HZ G N n [iI i0,gN r1,iI i2,cD i3,J [.ptr 0 0 0,.au 2,bl (gR (gC o4 0) 2)],aX (gR o4 1)]else bu [J [.ptr 0 0 0,.au 2,bl (gR l4 2)],aX r5]:aL):=ac
def asf:aeD G N [iI i0,J l1,J l2,aX r3]=(bO (HZ G N N (iI i0::fu Fo l2 18::nx l2 18::fQ (iB (.ptr 0 0 0) 2 [iA l1]) [mA r3])) λ_ o7=>gw (iB (.ptr 0 0 0) 3 [iA (cP o7)]) (aE l2) (fu sF o7 1) []:aL):=ac
def aes:Cz G N (n+1) [iI i0,eh r1,iI i2,iI i3,J l4,aX r5]=(bif cj i3 i2 then fb i3 r1<|bO (G pC [J (bg lU 1 (bG r1 i3)),J [.ptr 0 0 0,.au 1,bl (gR l4 2)],aX r5]) λ_ lM=>bO (G Xf [qP (bG r1 i3),J [.ptr 0 0 0,.au 1,bl (gR (gC lM 1) 2)],aX (gR lM 2)]) λ_ c9=>bO (G sw [cD i0,e7 (([[.str ((⟨#[111,114,32]⟩:ByteArray))],[.str (gS lM 0)],[.str (gS c9 0)]]:aY)),J [.ptr 0 0 0,.au 1,bl (gR (gC c9 1) 2)],aX (gR c9 2)]) λ_ gM=>bif gI (bG r1 i3) 0==1 then bO (G xw [iI (bH (i0+2)),J (bg fU 12 (bG r1 i3)),J [.ptr 0 0 0,.au 1,bl (gR (gC gM 0) 2)],aX (gR gM 1)]) λ_ iX=>bif gI (bG r1 i3) 0 != 4 then bO (G xw [iI (bH (i0+2)),J (bg fU 33 (bG r1 i3)),J [.ptr 0 0 0,.au 1,bl (gR (gC iX 0) 2)],aX (gR iX 1)]) λ_ qj=>Cz G N n [iI i0,eh r1,iI i2,cD i3,J [.ptr 0 0 0,.au 2,bl (gR (gC qj 0) 2)],aX (gR qj 1)]else Cz G N n [iI i0,eh r1,iI i2,cD i3,J [.ptr 0 0 0,.au 2,bl (gR (gC iX 0) 2)],aX (gR iX 1)]else bif gI (bG r1 i3) 0 != 4 then bO (G xw [iI (bH (i0+2)),J (bg fU 33 (bG r1 i3)),J [.ptr 0 0 0,.au 1,bl (gR (gC gM 0) 2)],aX (gR gM 1)]) λ_ jo=>Cz G N n [iI i0,eh r1,iI i2,cD i3,J [.ptr 0 0 0,.au 2,bl (gR (gC jo 0) 2)],aX (gR jo 1)]else Cz G N n [iI i0,eh r1,iI i2,cD i3,J [.ptr 0 0 0,.au 2,bl (gR (gC gM 0) 2)],aX (gR gM 1)]else bu [J [.ptr 0 0 0,.au 2,bl (gR l4 2)],aX r5]:aL):=ac
def aep:HW G N (n+1) [iI i0,gy r1,iI i2,iI i3,J l4,aX r5]=(bif cj i3 i2 then fb i3 r1<|bO (G zz [aJ (ln (gR (bG r1 i3) 0)==0),.str ((⟨#[32,111,116,104,101,114,115]⟩:ByteArray))]) λ_ dt=>bO (G zA [aM (gR (bG r1 i3) 0)]) λ_ dh=>bO (G sw [cD i0,e7 (([[.str ((⟨#[119,104,101,110]⟩:ByteArray))],[.str (gS dt 0)],[.str (gS dh 0)]]:aY)),J [.ptr 0 0 0,.au 1,bl (gR l4 2)],aX r5]) λ_ ju=>bO (G xw [iI (bH (i0+2)),J (bg fU 1 (bG r1 i3)),J [.ptr 0 0 0,.au 1,bl (gR (gC ju 0) 2)],aX (gR ju 1)]) λ_ cY=>HW G N n [iI i0,gy r1,iI i2,cD i3,J [.ptr 0 0 0,.au 2,bl (gR (gC cY 0) 2)],aX (gR cY 1)]else bu [J [.ptr 0 0 0,.au 2,bl (gR l4 2)],aX r5]:aL):=ac
end
noncomputable section
variable {G:Nat->ak->Option UO} {N n:Nat} {i0 i1 i2 i3:Int} {l0 l1 l2 l3 l4 l5:ak} {r0 r1 r2 r3 r4 r5 r6:aY}
def PM:aeL G N [iI i0,J l1,J l2,aX r3]=(bif gI l2 0==9 then bO (aeD G N [iI i0,J [.ptr 0 0 0,.au 3,bl (gR l1 2)],aE l2,aX r3]) λ_ o8=>bO (G sw [cD i0,e7 (([[.str ((⟨#[98,101,103,105,110]⟩:ByteArray))]]:aY)),J [.ptr 0 0 0,.au 1,bl (gR (gC o8 0) 2)],aX (gR o8 2)]) λ_ o9=>bf (cj 0 (ln (gR (gC o8 1) 17)))<|bO (G xw [iI (bH (i0+2)),aE (gA (gR (gC o8 1) 17) 0),J [.ptr 0 0 0,.au 1,bl (gR (gC o9 0) 2)],aX (gR o9 1)]) λ_ cV=>bO (HW G N N [iI i0,gy (gR (gC o8 1) 19),iI (ln (gR (gC o8 1) 19)),iI 0,J [.ptr 0 0 0,.au 2,bl (gR (gC cV 0) 2)],aX (gR cV 1)]) λ_ eW=>lK [J [.ptr 0 0 0,.au 3,bl (gR (gC eW 0) 2)],aE (gC o8 1),aX (gR eW 1)]else bif gI l2 0==19 then bO (Cz G N N [iI i0,eh (gR l2 20),iI (ln (gR l2 20)),iI 0,J [.ptr 0 0 0,.au 2,bl (gR l1 2)],aX r3]) λ_ qi=>bif !(gB l2 9)then lK [J [.ptr 0 0 0,.au 3,bl (gR (gC qi 0) 2)],aE l2,aX (gR qi 1)]else bu [J [.ptr 0 0 0,.au 3,bl (gR (gC qi 0) 2)],aE l2,aX (gR qi 1)]else bu [J [.ptr 0 0 0,.au 3,bl (gR l1 2)],aE l2,aX r3]:aL):=ac
def Wg:CF G N [cX r0,J l1,J l2,aX r3]=(eL ((gI l2 11)==0) (dr ((gI l2 0)==16) (gw (jt []) (iB (.ptr 0 0 0) 3 [iA l1]) (aE l2) [mA r3]) ((gI l2 0)==17) (bf ((da 1 (ln r0))&&(da (ln r0) (ln r0))) (gw (jt (r0.take 1)) (iB (.ptr 0 0 0) 3 [iA l1]) (aE l2) [mA r3])) (gw (jt r0) (iB (.ptr 0 0 0) 3 [iA l1]) (aE l2) [mA r3])) (jt r0) (iB (.ptr 0 0 0) 3 [iA l1]) [aE l2,mA r3]:aL):=ac
def aey:Lq G N (n+1) [iI i0,cX r1,iI i2,iI i3,J l4,aX r5]=(eL (cj i3 i2) (fb i3 r1 (bO (G xw [cD i0,aE (bG r1 i3),iB (.ptr 0 0 0) 1 [iA l4],mA r5]) λ_ y6=>Lq G N n [iI i0,jt r1,iI i2,cD i3,iB (.ptr 0 0 0) 2 [iA (cP y6)],fu sF y6 1])) (iB (.ptr 0 0 0) 2 [iA l4]) (mA r5) []:aL):=ac
def WV:bN CX EE G N xw [iI i0,J l1,J l2,aX r3]=(bO (G oU [aE l1,iB (.ptr 0 0 0) 1 [iA l2],mA r3]) λ_ o1=>bO (G sw [iI i0,e7 ([[.str (gS o1 0)]]:aY),iB (.ptr 0 0 0) 1 [iA (dJ o1)],fu sF o1 2]) λ_ o2=>bO (aeL G N [iI i0,iB (.ptr 0 0 0) 3 [iA (cP o2)],aE l1,fu sF o2 1]) λq23 sZ=>kv q23 (bO (CF G N [fu ud (dJ sZ) 17,iB (.ptr 0 0 0) 3 [iA (cP sZ)],oZ sZ,fu sF sZ 2]) λ_ jA=>bO (Lq G N N (iI i0::fu ud jA 0::nx jA 0::fQ (iB (.ptr 0 0 0) 2 [iA (dJ jA)]) [fu sF jA 3])) λ_ ye=>jb (iB (.ptr 0 0 0) 2 [iA (cP ye)]) (fu sF ye 1)) (iB (.ptr 0 0 0) 2 [iA (cP sZ)]) [fu sF sZ 2]:aL):=ac
def arV:bN CX EE G N aev [J l0,aX r1]=(bf (iv 0 r1.length)<|bf (cj 0 (ln r1))<|ado (ln r1).toNat r1 λb1=>jb (.str (an0 b1)) (iB (.ptr 0 0 0) 1 [iA l0]):aL):=ac
def afz:Il G N (n+1) [bl r0,iI i1,iI i2,J l3,aX r4]=(bif cj i2 i1 then fb i2 r0<|bif gB (bG r0 i2) 3 then bO (G jE [iI i2]) λ_ o6=>bO (G jE [iI (gI (bG r0 i2) 0)]) λ_ o7=>bO (G zA [aM (gR (bG r0 i2) 4)]) λ_ o8=>bO (G sw [iI 0,e7 (([[.str ((⟨#[111,98,106,32]⟩:ByteArray))],[.str (gS o6 0)],[.str ((⟨#[32]⟩:ByteArray))],[.str (gS o7 0)],[.str ((⟨#[32,112,116,114]⟩:ByteArray))],[.str (gS o8 0)]]:aY)),J [.ptr 0 0 0,.au 1,bl (gR l3 2)],aX r4]) λ_ o9=>Il G N n [bl r0,iI i1,cD i2,J [.ptr 0 0 0,.au 1,bl (gR (gC o9 0) 2)],aX (gR o9 1)]else bO (G jE [iI i2]) λ_ cV=>bO (G jE [iI (gI (bG r0 i2) 0)]) λ_ dt=>bO (G xy [iI (gI (bG r0 i2) 1)]) λ_ dh=>bO (G xy [iI (gI (bG r0 i2) 2)]) λ_ ju=>bO (G sw [iI 0,e7 (([[.str ((⟨#[111,98,106,32]⟩:ByteArray))],[.str (gS cV 0)],[.str ((⟨#[32]⟩:ByteArray))],[.str (gS dt 0)],[.str ((⟨#[32]⟩:ByteArray))],[.str (gS dh 0)],[.str ((⟨#[32]⟩:ByteArray))],[.str (gS ju 0)]]:aY)),J [.ptr 0 0 0,.au 1,bl (gR l3 2)],aX r4]) λ_ cY=>Il G N n [bl r0,iI i1,cD i2,J [.ptr 0 0 0,.au 1,bl (gR (gC cY 0) 2)],aX (gR cY 1)]else bu [J [.ptr 0 0 0,.au 1,bl (gR l3 2)],aX r4]:aL):=ac
def aw9:X0 G N [J l0,J l1,aX r2]=(bif cj 0 (ln (gR l0 0))then bf (cj 0 (ln (gR l0 0)))<|bif gB (gA (gR l0 0) 0) 3 then bO (G jE [iI 0]) λ_ o2=>bO (G jE [iI (gI (gA (gR l0 0) 0) 0)]) λ_ o3=>bO (G zA [aM (gR (gA (gR l0 0) 0) 4)]) λ_ o4=>bO (G Qa [iI 0,e7 (([[.str ((⟨#[111,98,106,32]⟩:ByteArray))],[.str (gS o2 0)],[.str ((⟨#[32]⟩:ByteArray))],[.str (gS o3 0)],[.str ((⟨#[32,112,116,114]⟩:ByteArray))],[.str (gS o4 0)]]:aY)),J [.jh,.au 1,bl (gR l1 2)],aX r2]) λ_ o5=>bO (Il G N N [bl (gR l0 0),iI (ln (gR l0 0)),iI 1,J [.ptr 0 0 0,.au 1,bl (gR (gC o5 0) 2)],aX (gR o5 1)]) λ_ eW=>bu [bT l0,J [.ptr 1 0 0,.au 2,bl (gR (gC eW 0) 2)],aX (gR eW 1)]else bO (G jE [iI 0]) λ_ lM=>bO (G jE [iI (gI (gA (gR l0 0) 0) 0)]) λ_ c9=>bO (G xy [iI (gI (gA (gR l0 0) 0) 1)]) λ_ gM=>bO (G xy [iI (gI (gA (gR l0 0) 0) 2)]) λ_ iX=>bO (G Qa [iI 0,e7 (([[.str ((⟨#[111,98,106,32]⟩:ByteArray))],[.str (gS lM 0)],[.str ((⟨#[32]⟩:ByteArray))],[.str (gS c9 0)],[.str ((⟨#[32]⟩:ByteArray))],[.str (gS gM 0)],[.str ((⟨#[32]⟩:ByteArray))],[.str (gS iX 0)]]:aY)),J [.jh,.au 1,bl (gR l1 2)],aX r2]) λ_ qj=>bO (Il G N N [bl (gR l0 0),iI (ln (gR l0 0)),iI 1,J [.ptr 0 0 0,.au 1,bl (gR (gC qj 0) 2)],aX (gR qj 1)]) λ_ jo=>bu [bT l0,J [.ptr 1 0 0,.au 2,bl (gR (gC jo 0) 2)],aX (gR jo 1)]else none:aL):=ac
def ae2:Qe G N (n+1) [bR r0,iI i1,iI i2,J l3,aX r4]=(bif cj i2 i1 then fb i2 r0<|bO (G pC [cp (bG r0 i2),J [.ptr 0 0 0,.au 1,bl (gR l3 2)],aX r4]) λ_ Hc=>bO (G sw [iI 1,e7 (([[.str ((⟨#[119,104,101,110,32]⟩:ByteArray))],[.str (gS Hc 0)]]:aY)),J [.ptr 0 0 0,.au 1,bl (gR (gC Hc 1) 2)],aX (gR Hc 2)]) λ_ Hb=>Qe G N n [bR r0,iI i1,cD i2,J [.ptr 0 0 0,.au 1,bl (gR (gC Hb 0) 2)],aX (gR Hb 1)]else bu [J [.ptr 0 0 0,.au 1,bl (gR l3 2)],aX r4]:aL):=ac
def afy:Qz G N (n+1) [kq r0,iI i1,iI i2,J l3,aX r4]=(bif cj i2 i1 then fb i2 r0<|bO (G jE [iI i2]) λ_ y6=>bO (G jE [iI (gI (bG r0 i2) 0)]) λ_ ye=>bO (G zA [aM (gR (bG r0 i2) 1)]) λ_ EA=>bO (G sw [iI 0,e7 (([[.str ((⟨#[112,114,111,116,32]⟩:ByteArray))],[.str (gS y6 0)],[.str ((⟨#[32]⟩:ByteArray))],[.str (gS ye 0)],[.str (gS EA 0)]]:aY)),J [.ptr 0 0 0,.au 1,bl (gR l3 2)],aX r4]) λ_ He=>bO (Qe G N N [bR (gR (bG r0 i2) 2),iI (ln (gR (bG r0 i2) 2)),iI 0,J [.ptr 0 0 0,.au 1,bl (gR (gC He 0) 2)],aX (gR He 1)]) λ_ Ez=>Qz G N n [kq r0,iI i1,cD i2,J [.ptr 0 0 0,.au 1,bl (gR (gC Ez 0) 2)],aX (gR Ez 1)]else bu [J [.ptr 0 0 0,.au 1,bl (gR l3 2)],aX r4]:aL):=ac
def awJ:afS G N [J l0,J l1,aX r2]=(bO (Qz G N N (fu Fq l0 3::nx l0 3::fQ (iB (.ptr 0 0 0) 1 [iA l1]) [mA r2])) λ_ o32=>gw (bT l0) (iB (.ptr 1 0 0) 2 [iA (cP o32)]) (fu sF o32 1) []:aL):=ac
def aeP:P6 G N (n+1) [oh r0,iI i1,iI i2,J l3,aX r4]=(bif cj i2 i1 then fb i2 r0<|bO (G zA [aM (gR (bG r0 i2) 0)]) λ_ o38=>bO (G zA [aM (gR (bG r0 i2) 1)]) λ_ o39=>bO (G sw [iI 1,e7 (([[.str ((⟨#[101,110,116,114,121]⟩:ByteArray))],[.str (gS o38 0)],[.str ((⟨#[32,45,62]⟩:ByteArray))],[.str (gS o39 0)]]:aY)),J [.ptr 0 0 0,.au 1,bl (gR l3 2)],aX r4]) λ_ KA=>P6 G N n [oh r0,iI i1,cD i2,J [.ptr 0 0 0,.au 1,bl (gR (gC KA 0) 2)],aX (gR KA 1)]else bu [J [.ptr 0 0 0,.au 1,bl (gR l3 2)],aX r4]:aL):=ac
def afr:Qt G N (n+1) [jr r0,iI i1,iI i2,J l3,aX r4]=(bif cj i2 i1 then fb i2 r0<|bO (G jE [iI i2]) λ_ o34=>bO (G jE [iI (gI (bG r0 i2) 0)]) λ_ OK=>bO (G xy [iI (gI (bG r0 i2) 23)]) λ_ o36=>bO (G sw [iI 0,e7 (([[.str ((⟨#[116,97,115,107,32]⟩:ByteArray))],[.str (gS o34 0)],[.str ((⟨#[32]⟩:ByteArray))],[.str (gS OK 0)],[.str ((⟨#[32]⟩:ByteArray))],[.str (gS o36 0)]]:aY)),J [.ptr 0 0 0,.au 1,bl (gR l3 2)],aX r4]) λ_ Ew=>bO (P6 G N N [oh (gR (bG r0 i2) 1),iI (ln (gR (bG r0 i2) 1)),iI 0,J [.ptr 0 0 0,.au 1,bl (gR (gC Ew 0) 2)],aX (gR Ew 1)]) λ_ o41=>bO (G xw [iI 1,J (bg fU 2 (bG r0 i2)),J [.ptr 0 0 0,.au 1,bl (gR (gC o41 0) 2)],aX (gR o41 1)]) λ_ U2=>Qt G N n [jr r0,iI i1,cD i2,J [.ptr 0 0 0,.au 1,bl (gR (gC U2 0) 2)],aX (gR U2 1)]else bu [J [.ptr 0 0 0,.au 1,bl (gR l3 2)],aX r4]:aL):=ac
def agM:bN CX EE G N CV [J l0]=(bO (G yr [bT l0]) λ_ o1=>bif !(gB o1 0)then bu [.str ByteArray.empty,iI 2]else bO (X0 G N [bT l0,J [.jh,.au 2,bl (gR l0 0)],aX gX]) λ_ qi=>bO (G jE [iI (gI (gC qi 0) 1)]) λ_ sZ=>bO (G sw [iI 0,e7 (([[.str ((⟨#[101,120,99,115,32]⟩:ByteArray))],[.str (gS sZ 0)]]:aY)),J [.ptr 0 0 0,.au 1,bl (gR (gC qi 1) 2)],aX (gR qi 2)]) λ_ jA=>bO (afS G N [bT (gC qi 0),J [.ptr 1 0 0,.au 2,bl (gR (gC jA 0) 2)],aX (gR jA 1)]) λ_ Ey=>bO (Qt G N N [jr (gR (gC Ey 0) 2),iI (ln (gR (gC Ey 0) 2)),iI 0,J [.ptr 0 0 0,.au 1,bl (gR (gC Ey 1) 2)],aX (gR Ey 2)]) λ_ U1=>bO (G aev [J [.ptr 0 0 0,.au 1,bl (gR (gC U1 0) 2)],aX (gR U1 1)]) λ_ o44=>bu [.str (gS o44 0),iI 0]:aL):=ac
def azo:bN CX EE G N Fx []=(bO (G LZ [fF]) λ_ o1=>bO (G CV [J [bl (gR o1 1),iI (gI (gC o1 0) 1),jr (gR o1 2),kq (gR (gC o1 0) 3)]]) λ_ o2=>bO (G Q2 [iI 1]) λ_ o3=>bO (G RX [J zz0,cp (gC o3 0)]) λ_ o4=>bO (G agG [J [bl (gR o1 1),iI (gI (gC o1 0) 1),jr (gR o1 2),kq (gR (gC o1 0) 3)],J (sT (bg lU 0 (gC o4 0)) [(8,bR (gR o4 1))])]) λ_ o5=>bO (G yr [J [bl (gR o1 1),iI (gI (gC o1 0) 1),jr (gR o1 2),kq (gR (gC o1 0) 3)]]) λ_ o6=>bif gB o6 0 then bO (G LZ [bq]) λ_ o7=>bO (G yr [J [bl (gR o7 1),iI (gI (gC o7 0) 1),jr (gR o7 2),kq (gR (gC o7 0) 3)]]) λ_ o8=>bif !(gB o8 0)then bif gI o2 1==0 then bif HK (gS o2 0) ((⟨#[111,98,106,32,48,32,49,32,48,32,57,10,101,120,99,115,32,52,10,116,97,115,107,32,48,32,49,32,48,10,32,32,111,48,32,58,61,32,91,48,46,46,57,32,40,111,48,32,43,32,49,41,93,10]⟩:ByteArray))then bif gB o5 2 then bif gI o5 0== -2147483648 then bif gI o5 1==2147483647 then bO (G ahq [J [bl (gR o1 1),iI (gI (gC o1 0) 1),jr (gR o1 2),kq (gR (gC o1 0) 3)]]) λ_ o9=>bif ln (gR o9 0)==1 then bf (cj 0 (ln (gR o1 2)))<|bO (G agH [J (bg fU 2 (gA (gR o1 2) 0))]) λ_ cV=>bu [aJ (gI cV 0==1)]else gg else gg else gg else gg else gg else gg else gg else gg:aL):=ac
def af1:QU G N (n+1) [aM r0,aM r1,iI i2]=(iC i2 (ln r0) i2 r0 (fb i2 r1 (kW ((gI (bG r0 i2) 0) != (gI (bG r1 i2) 0)) (QU G N n [c8 r0,c8 r1,cD i2]))) (lK []):aL):=ac
def azm:bN CX EE G N CY [aM r0,aM r1]=(kW ((ln r0) != (ln r1)) (bO (QU G N N (c8 r0::c8 r1::mK [])) λq1 o1=>nc q1 o1 [] fa):aL):=ac
def axd:bN CX EE G N Iq [J l0,J l1]=(nV ((gI l0 0)==(gI l1 0)) (vu ((gI l0 1)==(gI l1 1)) ((gI l0 2)==(gI l1 2)) (nV ((gI l0 3)==(gI l1 3)) (vu ((gI l0 4)==(gI l1 4)) ((gI l0 5)==(gI l1 5)) (vu ((gI l0 6)==(gI l1 6)) ((gI l0 7)==(gI l1 7)) (bO (G A3 [iJ l0 8,iJ l1 8]) λ_ o1=>qW o1))))):aL):=ac
def afK:QI G N (n+1) [bR r0,bR r1,iI i2]=(iC i2 (ln r0) i2 r0 (fb i2 r1 (bO (G Iq [cp (bG r0 i2),cp (bG r1 i2)]) λ_ o1=>kW (dG o1) (QI G N n [dR r0,dR r1,cD i2]))) (lK []):aL):=ac
end
noncomputable section
variable {G:Nat->ak->Option UO} {N n:Nat} {b0:Bool} {i0 i2 i3:Int} {l0 l1 l2 l4:ak} {r0 r1:aY}
def ayP:bN CX EE G N A3 [bR r0,bR r1]=(kW ((ln r0) != (ln r1)) (bO (QI G N N (dR r0::dR r1::mK [])) λq2 o2=>nc q2 o2 [] fa):aL):=ac
def afu:Qx G N (n+1) [dj r0,dj r1,iI i2]=(iC i2 (ln r0) i2 r0 (fb i2 r1 (kW ((gI (bG r0 i2) 0) != (gI (bG r1 i2) 0)) (fb i2 r0 (fb i2 r1 (kW ((gI (bG r0 i2) 1) != (gI (bG r1 i2) 1)) (fb i2 r0 (fb i2 r1 (kW ((gI (bG r0 i2) 2) != (gI (bG r1 i2) 2)) (fb i2 r0 (fb i2 r1 (kW ((gI (bG r0 i2) 3) != (gI (bG r1 i2) 3)) (fb i2 r0 (fb i2 r1 (bO (G A3 [iJ (bG r0 i2) 4,iJ (bG r1 i2) 4]) λ_ o1=>kW (dG o1) (Qx G N n [jV r0,jV r1,cD i2]))))))))))))))) (lK []):aL):=ac
def ayk:bN CX EE G N Q1 [dj r0,dj r1]=(kW ((ln r0) != (ln r1)) (bO (Qx G N N (jV r0::jV r1::mK [])) λq2 o2=>nc q2 o2 [] fa):aL):=ac
def afJ:QH G N (n+1) [cX r0,cX r1,iI i2]=(iC i2 (ln r0) i2 r0 (fb i2 r1 (bO (G yo [aE (bG r0 i2),aE (bG r1 i2)]) λ_ o1=>kW (dG o1) (QH G N n [jt r0,jt r1,cD i2]))) (lK []):aL):=ac
def ayO:bN CX EE G N YB [cX r0,cX r1]=(kW ((ln r0) != (ln r1)) (bO (QH G N N (jt r0::jt r1::mK [])) λq2 o2=>nc q2 o2 [] fa):aL):=ac
def avT:XA G N [J l0,J l1]=(dr ((gI l0 0) != (gI l1 0)) (jJ (aE l0) (aE l1) []) ((gI l0 1) != (gI l1 1)) (jJ (aE l0) (aE l1) []) (dr ((gI l0 2) != (gI l1 2)) (jJ (aE l0) (aE l1) []) ((gI l0 3) != (gI l1 3)) (jJ (aE l0) (aE l1) []) (lj ((gI l0 4) != (gI l1 4)) [cx,aE l0,aE l1] (dr ((gI l0 5) != (gI l1 5)) (jJ (aE l0) (aE l1) []) (!((gB l0 6)==(gB l1 6))) (jJ (aE l0) (aE l1) []) (dr (!((gB l0 7)==(gB l1 7))) (jJ (aE l0) (aE l1) []) (!((gB l0 8)==(gB l1 8))) (jJ (aE l0) (aE l1) []) (lj (!((gB l0 9)==(gB l1 9))) [cx,aE l0,aE l1] (dr (!((gB l0 10)==(gB l1 10))) (jJ (aE l0) (aE l1) []) ((gI l0 11) != (gI l1 11)) (jJ (aE l0) (aE l1) []) (jb (aE l0) (aE l1)))))))):aL):=ac
def avh:Xq G N [J l0,J l1]=(bO (G A3 [iJ l0 12,iJ l1 12]) λ_ o2=>lj (dG o2) [cx,aE l0,aE l1] (bO (G A3 [iJ l0 13,iJ l1 13]) λ_ o3=>lj (dG o3) [cx,aE l0,aE l1] (bO (G Q1 [fu wc l0 14,fu wc l1 14]) λ_ o4=>lj (dG o4) [cx,aE l0,aE l1] (bO (G Q1 [fu wc l0 15,fu wc l1 15]) λ_ o5=>lj (dG o5) [cx,aE l0,aE l1] (bO (G CY [dp l0 16,dp l1 16]) λ_ o6=>lj (dG o6) [cx,aE l0,aE l1] (bO (G YB [fu ud l0 17,fu ud l1 17]) λ_ o7=>eL (dG o7) (jJ (aE l0) (aE l1) []) (aE l0) (aE l1) []))))):aL):=ac
def avg:Xp G N [J l0,J l1]=(dr ((ln (gR l0 18)) != (ln (gR l1 18))) (jJ (aE l0) (aE l1) []) ((ln (gR l0 19)) != (ln (gR l1 19))) (jJ (aE l0) (aE l1) []) (eL ((ln (gR l0 20)) != (ln (gR l1 20))) (jJ (aE l0) (aE l1) []) (aE l0) (aE l1) []):aL):=ac
def aeW:Qd G N (n+1) [iI i0,J l1,J l2]=(rk i0 (qe l1 18) (fG i0 l1 18 (fG i0 l2 18 (bO (G yo [aE (cF l1 18 i0),aE (cF l2 18 i0)]) λ_ cV=>om cV [aE l1,aE l2] (fG i0 l1 18 (fG i0 l2 18 (bO (G yo [lg 21 (cF l1 18 i0),lg 21 (cF l2 18 i0)]) λ_ dt=>om dt [aE l1,aE l2] (Qd G N n [cD i0,aE l1,aE l2]))))))) (jH (aE l1) (aE l2) []):aL):=ac
def avf:Xo G N [J l0,J l1]=(bO (Qd G N N (fQ (aE l0) [aE l1])) λy4 dh=>kv y4 (p7 dh (oZ dh) [aE (iu dh)]) (aE (cP dh)) [oZ dh]:aL):=ac
def aeV:Qc G N (n+1) [iI i0,J l1,J l2]=(rk i0 (qe l1 19) (fG i0 l1 19 (fG i0 l2 19 (bO (G CY [dp (cF l1 19 i0) 0,dp (cF l2 19 i0) 0]) λ_ cY=>om cY [aE l1,aE l2] (fG i0 l1 19 (fG i0 l2 19 (bO (G yo [lg 1 (cF l1 19 i0),lg 1 (cF l2 19 i0)]) λ_ eW=>om eW [aE l1,aE l2] (Qc G N n [cD i0,aE l1,aE l2]))))))) (jH (aE l1) (aE l2) []):aL):=ac
def auF:Xj G N [J l0,J l1]=(bO (Qc G N N (fQ (aE l0) [aE l1])) λG5 lM=>kv G5 (p7 lM (oZ lM) [aE (iu lM)]) (aE (cP lM)) [oZ lM]:aL):=ac
def aeO:LC G N (n+1) [iI i0,J l1,J l2]=(rk i0 (qe l1 20) (fG i0 l1 20 (fG i0 l2 20 (dr ((gI (cF l1 20 i0) 0) != (gI (cF l2 20 i0) 0)) (gw cx (aE l1) (aE l2) []) ((gI (cF l1 20 i0) 10) != (gI (cF l2 20 i0) 10)) (gw cx (aE l1) (aE l2) []) (bO (G Iq [JL lU 1 (cF l1 20 i0),JL lU 1 (cF l2 20 i0)]) λ_ gM=>om gM [aE l1,aE l2] (bO (G A3 [iJ (cF l1 20 i0) 11,iJ (cF l2 20 i0) 11]) λ_ iX=>om iX [aE l1,aE l2] (bO (G yo [lg 12 (cF l1 20 i0),lg 12 (cF l2 20 i0)]) λ_ qj=>om qj [aE l1,aE l2] (bO (G yo [lg 33 (cF l1 20 i0),lg 33 (cF l2 20 i0)]) λ_ jo=>om jo [aE l1,aE l2] (LC G N n [cD i0,aE l1,aE l2])))))))) (jH (aE l1) (aE l2) []):aL):=ac
def axc:bN CX EE G N yo [J l0,J l1]=(bO (XA G N [aE l0,aE l1]) λq1 o1=>lh q1 (bO (Xq G N [aE (cP o1),oZ o1]) λq8 o8=>lh q8 (bO (Xp G N [aE (cP o8),oZ o8]) λq9 o9=>lh q9 (bO (Xo G N [aE (cP o9),oZ o9]) λG7 ju=>lh G7 (bO (Xj G N [aE (cP ju),oZ ju]) λB8 c9=>lh B8 (bO (LC G N N (fQ (aE (cP c9)) [oZ c9])) λq22 qi=>nc q22 qi [] fa) c9 []) ju []) o9 []) o8 []) o1 []:aL):=ac
def ayi:Yt G N [J l0,J l1]=(lj ((gI l0 1) != (gI l1 1)) [cx,bT l0,bT l1] (dr ((ln (gR l0 0)) != (ln (gR l1 0))) (jJ (bT l0) (bT l1) []) ((ln (gR l0 2)) != (ln (gR l1 2))) (jJ (bT l0) (bT l1) []) (eL ((ln (gR l0 3)) != (ln (gR l1 3))) (jJ (bT l0) (bT l1) []) (bT l0) (bT l1) [])):aL):=ac
def af2:QV G N (n+1) [iI i0,J l1,J l2]=(rk i0 (qe l1 0) (fG i0 l1 0 (fG i0 l2 0 (dr ((gI (cF l1 0 i0) 0) != (gI (cF l2 0 i0) 0)) (gw cx (bT l1) (bT l2) []) ((gI (cF l1 0 i0) 1) != (gI (cF l2 0 i0) 1)) (gw cx (bT l1) (bT l2) []) (dr ((gI (cF l1 0 i0) 2) != (gI (cF l2 0 i0) 2)) (gw cx (bT l1) (bT l2) []) (!((gB (cF l1 0 i0) 3)==(gB (cF l2 0 i0) 3))) (gw cx (bT l1) (bT l2) []) (bO (G CY [dp (cF l1 0 i0) 4,dp (cF l2 0 i0) 4]) λ_ o2=>om o2 [bT l1,bT l2] (QV G N n [cD i0,bT l1,bT l2])))))) (jH (bT l1) (bT l2) []):aL):=ac
def axN:Yd G N [J l0,J l1]=(bO (QV G N N (fQ (bT l0) [bT l1])) λq3 o3=>kv q3 (p7 o3 (nU o3) [bT (iu o3)]) (oo o3) [nU o3]:aL):=ac
def awD:XP G N [J l0,J l1]=(dr ((gI l0 0) != (gI l1 0)) (jJ (oi l0) (oi l1) []) ((gI l0 23) != (gI l1 23)) (jJ (oi l0) (oi l1) []) (lj ((ln (gR l0 1)) != (ln (gR l1 1))) [cx,oi l0,oi l1] (bO (G yo [lg 2 l0,lg 2 l1]) λ_ o5=>eL (dG o5) (jJ (oi l0) (oi l1) []) (oi l0) (oi l1) [])):aL):=ac
def afk:LN G N (n+1) [iI i0,J l1,J l2]=(rk i0 (qe l1 1) (fG i0 l1 1 (fG i0 l2 1 (bO (G CY [dp (cF l1 1 i0) 0,dp (cF l2 1 i0) 0]) λ_ o7=>om o7 [oi l1,oi l2] (fG i0 l1 1 (fG i0 l2 1 (bO (G CY [jd (cF l1 1 i0),jd (cF l2 1 i0)]) λ_ o8=>om o8 [oi l1,oi l2] (LN G N n [cD i0,oi l1,oi l2]))))))) (jH (oi l1) (oi l2) []):aL):=ac
def afM:QJ G N (n+1) [iI i0,J l1,J l2]=(rk i0 (qe l1 2) (fG i0 l1 2 (fG i0 l2 2 (bO (XP G N [oi (cF l1 2 i0),oi (cF l2 2 i0)]) λq6 o6=>lh q6 (bO (LN G N N (fQ (oi (cP o6)) [oi (dJ o6)])) λq9 o9=>nc q9 o9 [bT l1,bT l2] (QJ G N n [cD i0,bT l1,bT l2])) o6 [bT l1,bT l2]))) (jH (bT l1) (bT l2) []):aL):=ac
def axM:Yc G N [J l0,J l1]=(bO (QJ G N N (fQ (bT l0) [bT l1])) λrD cV=>kv rD (p7 cV (nU cV) [bT (iu cV)]) (oo cV) [nU cV]:aL):=ac
def afL:LX G N (n+1) [iI i0,J l1,J l2]=(rk i0 (qe l1 3) (fG i0 l1 3 (fG i0 l2 3 (vC ((gI (cF l1 3 i0) 0) != (gI (cF l2 3 i0) 0)) [bT l1,bT l2] (bO (G CY [jd (cF l1 3 i0),jd (cF l2 3 i0)]) λ_ dh=>om dh [bT l1,bT l2] (bO (G A3 [iJ (cF l1 3 i0) 2,iJ (cF l2 3 i0) 2]) λ_ ju=>om ju [bT l1,bT l2] (LX G N n [cD i0,bT l1,bT l2])))))) (jH (bT l1) (bT l2) []):aL):=ac
def azn:bN CX EE G N YW [J l0,J l1]=(bO (Yt G N [bT l0,bT l1]) λq1 o1=>lh q1 (bO (Yd G N [oo o1,nU o1]) λq4 o4=>lh q4 (bO (Yc G N [oo o4,nU o4]) λxb dt=>lh xb (bO (LX G N N (fQ (oo dt) [nU dt])) λy0 cY=>nc y0 cY [] fa) dt []) o4 []) o1 []:aL):=ac
def axX:bN CX EE G N QS [J l0,J l1]=(vu ((gI l0 0)==(gI l1 0)) ((gI l0 1)==(gI l1 1)) (vu ((gI l0 2)==(gI l1 2)) ((gB l0 3)==(gB l1 3)) (bO (G AW [dp l0 4,dp l1 4]) λ_ o1=>qW o1)):aL):=ac
def ad4:PI G N (n+1) [bl r0,bl r1,iI i2,iI i3]=(iC i3 i2 i3 r1 (fb i3 r0 (bO (G QS [qv (bG r1 i3),qv (bG r0 i3)]) λ_ o1=>kW (dG o1) (PI G N n [bl r0,bl r1,iI i2,cD i3]))) (lK []):aL):=ac
def aq5:bN CX EE G N V2 [bl r0,bl r1]=(kW ((ln r0) != (ln r1)) (bO (PI G N N (bl r1:: bl r0::oK r0::mK [])) λq2 o2=>nc q2 o2 [] fa):aL):=ac
def axW:bN CX EE G N QR [J l0,J l1]=(bO (G AW [dp l0 0,dp l1 0]) λ_ o1=>nV (fm o1) (bO (G AW [jd l0,jd l1]) λ_ o2=>qW o2):aL):=ac
def adP:PD G N (n+1) [oh r0,oh r1,iI i2,iI i3]=(iC i3 i2 i3 r1 (fb i3 r0 (bO (G QR [gf (bG r1 i3) [jd (bG r1 i3)],gf (bG r0 i3) [jd (bG r0 i3)]]) λ_ o1=>kW (dG o1) (PD G N n [oh r0,oh r1,iI i2,cD i3]))) (lK []):aL):=ac
def aqY:bN CX EE G N VZ [oh r0,oh r1]=(kW ((ln r0) != (ln r1)) (bO (PD G N N (oh r1:: oh r0::oK r0::mK [])) λq2 o2=>nc q2 o2 [] fa):aL):=ac
def axV:bN CX EE G N X8 [J l0,J l1,J l2]=(kh ((gI l0 0)==(gI l1 0)) (kh ((gI l0 23)==(gI l1 23)) (bO (G VZ [fu L6 l0 1,fu L6 l1 1]) λ_ o1=>kh (fm o1) (bO (G u9 [lg 2 l0,lg 2 l1]) λ_ o2=>jb (oL o2) (oD (.eJ 59 [] []))) (oD (.eJ 59 [] [])) []) (oD (.eJ 59 [] [])) []) (oD (.eJ 59 [] [])) []:aL):=ac
def adX:PF G N (n+1) [jr r0,jr r1,iI i2,iI i3,J l4]=(iC i3 i2 i3 r1 (fb i3 r0 (bO (G X8 [oi (bG r1 i3),oi (bG r0 i3),oD (.eJ 59 [] [])]) λ_ o1=>om o1 [oD (.eJ 59 [] [])] (PF G N n [jr r0,jr r1,iI i2,cD i3,oD (.eJ 59 [] [])]))) (xQ (oD (.eJ 59 [] [])) []):aL):=ac
def aq1:bN CX EE G N V0 [jr r0,jr r1,J l2]=(vC ((ln r0) != (ln r1)) [oD (.eJ 59 [] [])] (bO (PF G N N (jr r1:: jr r0::oK r0::fQ (oD (.eJ 59 [] [])) [])) λq2 o2=>kv q2 (jb (oL o2) (oD (.eJ 59 [] []))) mJ [oD (.eJ 59 [] [])]):aL):=ac
def axU:bN CX EE G N QQ [J l0,J l1]=(nV ((gI l0 0)==(gI l1 0)) (bO (G AW [jd l0,jd l1]) λ_ o1=>nV (fm o1) (bO (G zu [iJ l0 2,iJ l1 2]) λ_ o2=>qW o2)):aL):=ac
def adY:PH G N (n+1) [kq r0,kq r1,iI i2,iI i3]=(iC i3 i2 i3 r1 (fb i3 r0 (bO (G QQ [vd (bG r1 i3),vd (bG r0 i3)]) λ_ o1=>kW (dG o1) (PH G N n [kq r0,kq r1,iI i2,cD i3]))) (lK []):aL):=ac
def aq2:bN CX EE G N V1 [kq r0,kq r1]=(kW ((ln r0) != (ln r1)) (bO (PH G N N (kq r1:: kq r0::oK r0::mK [])) λq2 o2=>nc q2 o2 [] fa):aL):=ac
def ayW:bN CX EE G N Mi [J l0,J l1]=(nV ((gI l0 1)==(gI l1 1)) (bO (G V2 [Ad l0 0,Ad l1 0]) λ_ o1=>nV (fm o1) (bO (G V0 [fu Ix l0 2,fu Ix l1 2,oD (.eJ 59 [] [])]) λ_ o2=>nV (fm o2) (bO (G V1 [fu Fq l0 3,fu Fq l1 3]) λ_ o3=>qW o3))):aL):=ac
def Xm:Qu G N [J l0,J l1]=(bO (G Rb [bT l0]) λ_ o1=>bif fm o1 then bO (G Fx []) λ_ o2=>p7 o2 (bT l0) [bT l1]else bO (G Rb [bT l1]) λ_ o3=>eL (fm o3) (bO (G Fx []) λ_ o4=>p7 o4 (bT l0) [bT l1]) (bT l0) (bT l1) []:aL):=ac
def avj:Xs G N [aJ b0,J l1,J l2]=(bO (G Mi [bT l1,bT l2]) λ_ o7=>lj (!((gB o7 0)==b0)) [cx,bT l1,bT l2] (bO (G Mi [bT l2,bT l1]) λ_ o8=>lj (!((gB o8 0)==b0)) [cx,bT l1,bT l2] (bO (G Mi [bT l1,bT l1]) λ_ o9=>eL (dG o9) (jJ (bT l1) (bT l2) []) (bT l1) (bT l2) [])):aL):=ac
def aud:W9 G N [iI i0,J l1,J l2]=(rk i0 (qe l1 2) (mb (mL i0 l2 2) (bT l1) [bT l2] (jH (bT l1) (bT l2) [])) (jH (bT l1) (bT l2) []):aL):=ac
def as3:Wz G N [iI i0,J l1,J l2]=(rk i0 (qe l1 12) (mb (mL i0 l2 12) (aE l1) [aE l2] (jH (aE l1) (aE l2) [])) (jH (aE l1) (aE l2) []):aL):=ac
def aeM:Lx G N (n+1) [iI i0,J l1,J l2]=(bO (Wz G N [iI i0,aE l1,aE l2]) λy0 cY=>bif pT y0 then fG i0 (cP cY) 12 (fG i0 (dJ cY) 12 (bO (G Ij [cp (cF (cP cY) 12 i0),cp (cF (dJ cY) 12 i0)]) λ_ eW=>fG i0 (cP cY) 12 (fG i0 (dJ cY) 12 (bO (G Iq [cp (cF (cP cY) 12 i0),cp (cF (dJ cY) 12 i0)]) λ_ lM=>vC (!((gB eW 0)==(gB lM 0))) [aE (cP cY),oZ cY] (Lx G N n [cD i0,aE (cP cY),oZ cY])))))else jH (aE (cP cY)) (oZ cY) []:aL):=ac
end
noncomputable section
variable {G:Nat->ak->Option UO} {N n:Nat} {i0:Int} {l0 l1 l2:ak}
def aeX:LH G N (n+1) [iI i0,J l1,J l2]=(bO (W9 G N [iI i0,bT l1,bT l2]) λxb dt=>bif pT xb then fG i0 (cP dt) 2 (fG i0 (dJ dt) 2 (bO (G u9 [lg 2 (cF (cP dt) 2 i0),lg 2 (cF (dJ dt) 2 i0)]) λ_ dh=>bO (G yo [lg 2 (cF (cP dt) 2 i0),lg 2 (cF (dJ dt) 2 i0)]) λ_ ju=>vC (!((gB dh 0)==(gB ju 0))) [oo dt,nU dt] (bO (Lx G N N (fQ (lg 2 (cF (cP dt) 2 i0)) [lg 2 (cF (dJ dt) 2 i0)])) λB8 c9=>nc B8 c9 [oo dt,nU dt] (LH G N n [cD i0,oo dt,nU dt]))))else jH (oo dt) (nU dt) []:aL):=ac
def avi:Xr G N [J l0,J l1]=(bO (LH G N N (fQ (bT l0) [bT l1])) λOF gM=>kv OF (p7 gM (nU gM) [bT (iu gM)]) (oo gM) [nU gM]:aL):=ac
def axe:bN CX EE G N XV [J l0,J l1]=(bO (Qu G N [bT l0,bT l1]) λq5 o5=>lh q5 (bO (G YW [oo o5,nU o5]) λ_ o6=>bO (Xs G N [oL o6,oo o5,nU o5]) λrD cV=>lh rD (bO (Xr G N [oo cV,nU cV]) λG4 iX=>lh G4 (bO (G CV [oo iX]) λ_ qj=>bO (G CV [nU iX]) λ_ jo=>bif (gI qj 1)==0 then bif (gI jo 1)==0 then kW (!((HK (gS qj 0) (gS jo 0))==(gB o6 0))) (bO (G Fx []) λ_ qi=>qW qi)else bO (G Fx []) λ_ sZ=>qW sZ else bO (G Fx []) λ_ jA=>qW jA) iX []) cV []) o5 []:aL):=ac
end
end Go.Proofs.B
namespace Go.aj
def akc{p:Prop}(h:p:=by simp only [yN,hc,hd,he,hf,bU,cf]):p:=h
end Go.aj
namespace Go.aj
def cf:=@cond_false
def FA:=@List.take_succ
end Go.aj
namespace Go.Proofs.B
open Go Go.aj
section
variable{i:Nat}{l:bQ}
def gv(l:bQ)(n:Int):Bool:=l.any (·==n)
def aA6(l:bQ)(n:Int):l.any (n== ·)=gv l n:=by
 unfold gv;congr 1;funext x;exact BEq.comm
def yt(n:Int)(hl:l.length<=mx):Ev wa [aM (ints l),iI n] (0,[aJ (gv l n)]):=by
 have h:=scan (l:=l) (p:=(n== ·)) (hit:=λi=>(0,[iI (i:Int)])) (done:=(1,[])) (LF:=λi N m=>PT (FU CX EE N) N m [aM (ints l),iI n,iI (ln (ints l)),iI (i:Int)])
  (bF aeE (az eo aH))
  λi hi r U h2=>bF aeE<|bE (dz hi)<|aA (cb hi)<|by
   rw [dk hi,ix hi hl];exact aW (λhc=>aq (U hc)) h2
 rw [aA6]at h;rcases h with⟨U,h2⟩|⟨U,i,hi,h2⟩
 ·refine bh aeJ (ah (o:=(0,[iI (-1)])) (bh ae4 (ah h2.diag aH)) (aq ?_));rw [U];rfl
 ·refine bh aeJ (ah (o:=(0,[iI (i:Int)])) (bh ae4 (ah h2.diag aH)) (aq ?_));rw [U];simp [gI,AV.toI]
def NR(a b:bQ):Bool:= !(a.any λx=> !gv b x)
def yN(l:bQ)(lo hi:Int)(i:Nat):Bool:=bif decide (l.getD i 0<lo)then true else bif decide (hi<l.getD i 0)then true else bif decide (0<i)then decide (l.getD i 0<=l.getD (i- 1) 0)else false
def qG(l:bQ)(lo hi:Int):Bool:= !(List.range l.length).any (yN l lo hi)
def pr{n:Nat}(h:i<n)(hn:n<=mx)(h0:decide ((0:Int)<(i:Int))=true):bH ((i:Int)- 1)=((i- 1:Nat):Int):=by
 have:0<i:=by simpa using h0
 simp only [mx]at hn;exact Dz
def zi:decide ((0:Int)<(i:Int))=decide (0<i):=by
 cases i with
 |zero=>rfl
 |succ n=>simp
def Uc(lo hi:Int)(hl:l.length<=mx):Ev Is [aM (ints l),iI lo,iI hi] (0,[aJ (qG l lo hi)]):=by
 have h:=Jt (m:=l.length) (p:=yN l lo hi) (hit:=(0,[bq])) (done:=(1,[])) (LF:=λi N m=>LQ (FU CX EE N) N m [aM (ints l),iI lo,iI hi,aM (ints l),iI (ln (ints l)),iI (i:Int)])
  (bF afq (az eo aH))
  λi h r U h2=>bF afq<|bE (dz h)<|aA (cb h)<|by
   rw [wF h,ix h hl];refine aW (λhc=>aq (U (by simp only [yN,hc,bU]))) λhc=>aW (λhd=>aq (U (by simp only [yN,hc,hd,bU,cf]))) λhd=>aW (λhe=> ?_) λhe=>h2 (by rw [zi]at he;simp only [yN,hc,hd,he,cf]);rw [pr h hl he];have tX:i- 1<l.length:=by omega
   rw [wF tX];rw [zi]at he;exact aA (cb tX)<|aW (λhf=>aq (U (akc))) λhf=>h2 (akc)
 refine bh axP (ah h.diag ?_);unfold qG;cases(List.range l.length).any (yN l lo hi)<;>exact aH
def Ft{k:IntKind}(es:List (AV×AV))(a b:Int)(v:AV):aj.dF (aj.kX es (.int k a) v) (.int k b)=if b=a then some v else aj.dF es (.int k b):=by
 induction es with
 |nil=>
  simp only [aj.kX,aj.dF,aj.xh]
  by_cases h:b=a
  ·subst h;simp
  ·have:(b==a)=false:=by simpa using h
   simp [h,this]
 |cons e es ih=>
  obtain⟨x,y⟩:=e;simp only [aj.kX];cases hk:aj.xh (.int k a) x with
  |true=>
   simp only [aj.dF];rw [show aj.xh (.int k b) (.int k a)=(b==a)from rfl]
   by_cases h:b=a
   ·subst h;simp
   ·have h2:(b==a)=false:=by simpa using h
    have h3:aj.xh (.int k b) x=false:=by
     cases x<;>simp only [aj.xh]at hk⊢<;>try cases hk
     have:=eq_of_beq hk;subst this;exact h2
    simp [h,h2,h3]
  |false=>
   simp only [aj.dF];rw [ih]
   by_cases h:b=a
   ·subst h;simp [hk]
   ·simp [h]
def w4(l:bQ)(lo hi:Int)(i:Nat):Bool:=bif decide (l.getD i 0<lo)then true else bif decide (hi<l.getD i 0)then true else gv (l.take i) (l.getD i 0)
def oz(l:bQ)(lo hi:Int):Bool:= !(List.range l.length).any (w4 l lo hi)
def aAx(h:i<l.length)(n:Int):gv (l.take (i+1)) n=(gv (l.take i) n||l.getD i 0==n):=by
 unfold gv;rw [FA,List.any_append];simp [dy h]
def axo{p:Nat->Bool}{m:Nat}(h:i<m):(List.range' i (m- i)).any p=(p i||(List.range' (i+1) (m-(i+1))).any p):=by
 rw [show m- i=(m-(i+1))+1 by omega,List.range'_succ,RH]
def acz(lo up:Int)(hl:l.length<=mx):Ev L0 [aM (ints l),iI lo,iI up] (0,[aJ (oz l lo up)]):=by
 have h:=ku (m:=l.length) (P:=λi=>∀es:List (AV×AV),(∀x,dF es (.int .i64 x)=if gv (l.take i) x=true then some (fF)else none)->
  ∃ys,cq Fk [iI lo,iI up,aM (ints l),iI (ln (ints l)),iI (i:Int),.ae 0 (bz es)] (bif (List.range' i (l.length- i)).any (w4 l lo up)then(0,[bq,.ae 0 ys])else(1,[.ae 0 ys])))
  (λes _=>⟨bz (aU (bz es)),bF afn (az eo (aq (by simp)))⟩)
  λi hi ih es he=>by
   have hf:=he (l.getD i 0);have step:∀ys r,(w4 l lo up i=true->(0,[bq,.ae 0 (bz (aU (bz es)))])=r)->(w4 l lo up i=false->cq Fk [iI lo,iI up,aM (ints l),iI (ln (ints l)),iI ((i+1:Nat):Int),.ae 0 ys] r)->ys=bz (kX es (.int .i64 (l.getD i 0)) (fF))->
    cq Fk [iI lo,iI up,aM (ints l),iI (ln (ints l)),iI (i:Int),.ae 0 (bz es)] r:=by
    intro ys r U h2 hy;refine bF afn<|bE (dz hi)<|aA (cb hi) ?_;rw [wF hi,ix hi hl];refine aW (λhc=>aq (U (by simp only [w4,hc,bU]))) λhc=>aW (λhd=>aq (U (by simp only [w4,hc,hd,bU,cf]))) λhd=> ?_;cases hn:gv (l.take i) (l.getD i 0)with
    |true=>
     rw [hn,if_pos rfl]at hf;rw [show dF (aU (bz es)) (iI (l.getD i 0))=some (fF)by rw [wy];exact hf];exact bp (aq (U (by simp only [w4,hc,hd,hn,cf])))
    |false=>
     rw [hn,if_neg (by simp)]at hf;rw [show dF (aU (bz es)) (iI (l.getD i 0))=none by rw [wy];exact hf];rw [wy,<-hy];exact h2 (by simp only [w4,hc,hd,hn,cf])
   rw [axo hi];cases hp:w4 l lo up i with
   |true=>exact⟨_,step _ _ (λ_=>rfl) (λh=>M9) rfl⟩
   |false=>
    rw [IJ];obtain⟨ys,hy⟩:=ih (kX es (.int .i64 (l.getD i 0)) (fF)) λx=>by
     rw [Ft,he,aAx hi]
     by_cases hx:x=l.getD i 0
     ·subst hx;simp
     ·have:(l.getD i 0==x)=false:=by simpa using λh=>hx h.symm
      rw [if_neg hx,this,RJ]
    exact⟨ys,step _ _ (λh=>M9) (λ_=>hy) rfl⟩
 obtain⟨ys,h⟩:=h [] λx=>by simp [dF,gv]
 refine bh axO (ah h.diag ?_);unfold oz;rw [List.range_eq_range',Nat.sub_zero];cases(List.range' 0 l.length).any (w4 l lo up)<;>exact aH
end
end Go.Proofs.B
namespace Go.aj
def amP{p:Prop}(h:p:=by
 by_cases a:A
 ·exact .mk (λx=>ah (ha.t a) ((h a).t x.2)) λx=>ah (ha.t a) ((h a).f λp=>x ⟨a,p⟩)
 ·exact .mk (λx=>absurd x.1 a) λx=>ah (ha.f a) (DL (g:=λ_ _=>some b) hf aH)):p:=h
def alA{p:Prop}(h:p:=by
 by_cases a:A
 ·exact ah (ha.t a) (h2 a)
 ·exact ah (ha.f a) (DL (g:=λ_ _=>some b) hf (aq (U a)))):p:=h
def ajO{p:Prop}(h:p:=by exact .mk (λx=>absurd (hc.2 x.1) (by simp)) λ_=>aH):p:=h
end Go.aj
namespace Go.aj
def Ru:=@List.any_eq_false
def ahz:=@Classical.byContradiction
end Go.aj
namespace Go.Proofs.B
open Go Go.aj
section
variable{c:Bool}{α:Type}{a:List α}{k:Nat->Nat->Nat->ak->Option UO}{A P:Prop}{b g:UO}
noncomputable abbrev dq (P:Prop):Bool:= @decide P (Classical.propDecidable P)
def yT(h:P):dq P=true:= @decide_eq_true P (Classical.propDecidable P) h
def yU(h:¬P):dq P=false:= @decide_eq_false P (Classical.propDecidable P) h
abbrev DE(f:Nat->Nat->Option UO)(P:Prop)(g b:UO):Prop:=E f (bif dq P then g else b)
abbrev oT:UO:=(0,[fF])
abbrev oF:UO:=(0,[bq])
abbrev DV(v:Nat)(l:ak)(P:Prop):Prop:=DE (λN _=>FU CX EE N v l) P oT oF
def DE.iff{f:Nat->Nat->Option UO}{Q:Prop}(h:DE f P g b)(e:Q ↔ P):DE f Q g b:=by rw [propext e];exact h
def DE.t{f:Nat->Nat->Option UO}(h:DE f P g b)(p:P):E f g:=by unfold DE at h;rw [yT p]at h;exact h
def DE.f{f:Nat->Nat->Option UO}{P:Prop}{g b:UO}(h:DE f P g b)(p:¬P):E f b:=by unfold DE at h;rw [yU p]at h;exact h
def DE.mk{f:Nat->Nat->Option UO}(h:P->E f g)(h':¬P->E f b):DE f P g b:=by
 by_cases p:P
 ·unfold DE;rw [yT p];exact h p
 ·unfold DE;rw [yU p];exact h' p
def DE.done:DE (λ_ _=>some g) True g b:= .mk (λ_=>aH) λh=>absurd trivial h
def DE.yes{f:Nat->Nat->Option UO}(hc:c=true ↔ A)(h:DE f P g b):DE (λN n=>bif c then f N n else some b) (A/\P) g b:=by
 cases c with
 |true=>exact h.iff ⟨λx=>x.2,λx=>⟨hc.1 rfl,x⟩⟩
 |false=>exact ajO
def DE.no{f:Nat->Nat->Option UO}(hc:c=false ↔ A)(h:DE f P g b):DE (λN n=>bif c then some b else f N n) (A/\P) g b:=by
 cases c with
 |false=>exact h.iff ⟨λx=>x.2,λx=>⟨hc.1 rfl,x⟩⟩
 |true=>exact ajO
def DE.call{f:Nat->Nat->Option UO}(ha:DE f A oT oF)(hf:∀N n,k N n 0 [bq]=some b)(h:A->DE (λN n=>k N n 0 [fF]) P g b):DE (λN n=>bO (f N n) (k N n)) (A/\P) g b:=amP
def DE.last{f:Nat->Nat->Option UO}(ha:DE f A oT oF):DE (λN n=>bO (f N n) λ_ o=>some (0,[aJ (gB o 0)])) A oT oF:=
 .mk (λx=>ah (ha.t x) aH) λx=>ah (ha.f x) aH
def DE.bool{c:Bool}{A:Prop}(hc:c=true ↔ A):DE (λ_ _=>some (0,[aJ c])) A oT oF:=
 .mk (λx=>aq (by rw [hc.2 x])) λx=>aq (by cases c;rfl;exact absurd (hc.1 rfl) x)
def mN{a b:Int}:(a==b)=true ↔ a=b:=by simp
def nk{a b:Int}:(a != b)=false ↔ a=b:=by simp
def aLf{a b:Bool}:(a==b)=true ↔ a=b:=by simp
def yP{a b:Bool}:(!(a==b))=false ↔ a=b:=by simp
def BM{β:Type}{f:α->Row}{g:β->Row}{b:List β}:(ln (a.map f) != ln (b.map g))=false ↔ a.length=b.length:=by simp [ln];omega
def aDg{b:List α}(hl:a.length=b.length):(List.range a.length).any (λi=> !dq (a[i]?=b[i]?))= !dq (a=b):=by
 by_cases h:a=b
 ·rw [yT h];subst h;simp only [dq,decide_true,RC,Ru];simp
 ·rw [yU h,RQ,RM];apply ahz;intro hn;refine h (R8 λi=> ?_)
  by_cases hi:i<a.length
  ·apply ahz;intro hx;exact hn ⟨i,Bf.2 hi,by rw [yU hx];rfl⟩
  ·rw [FH (by omega),FH (by omega)]
def DC{b:List α}{LF:Nat->Nat->Nat->Option UO}{done bad:UO}(hl:a.length=b.length)(hd:E (LF a.length) done)
 (hs:∀(i:Nat) (h:i<a.length) (h':i<b.length) (r:UO),(a[i]≠b[i]->bad=r)->(a[i]=b[i]->E (LF (i+1)) r)->E (LF i) r):DE (LF 0) (a=b) done bad:=by
 have key:=Jt (m:=a.length) (LF:=LF) (p:=λi=> !dq (a[i]?=b[i]?)) (hit:=bad) hd λi hi r U h2=>by
  have ca:i<b.length:=hl▸hi;have e:a[i]?=b[i]? ↔ a[i]=b[i]:=by rw [dy hi,dy ca];simp
  exact hs i hi ca r (λh=>U (by rw [yU (λx=>h (e.1 x))];rfl)) λh=>h2 (by rw [yT (e.2 h)];rfl)
 rw [aDg hl]at key;unfold DE;cases h:dq (a=b)<;>rw [h]at key<;>exact key
def uu{b:List α}{e:α->Row}(LF:Nat->Nat->Nat->Option UO){b':UO}(d h:UO)(hk:∀N n,k N n d.1 d.2=some g)(sj:∀N n,k N n h.1 h.2=some b')(hd:E (LF a.length) d)
 (hs:∀(i:Nat) (_:i<a.length) (_:i<b.length) (r:UO),(a[i]≠b[i]->h=r)->(a[i]=b[i]->E (LF (i+1)) r)->E (LF i) r):
 DE (λN n=>bif ln (a.map e) != ln (b.map e)then some b' else bO (LF 0 N N) (k N n)) (a=b) g b':=by
 by_cases Cp:a.length=b.length
 ·have h0:=(BM (f:=e) (g:=e)).2 Cp;have hl:=DC Cp hd hs;refine .mk (λx=>az h0 (ah (E.diag (hl.t x)) (DL (g:=λ_ _=>some g) hk aH))) λx=>az h0 (ah (E.diag (hl.f x)) (DL (g:=λ_ _=>some b') sj aH))
 ·refine .mk (λx=>absurd (by rw [x]) Cp) λ_=>bE ?_ aH;cases h:ln (a.map e) != ln (b.map e)with
  |true=>rfl
  |false=>exact absurd (BM.1 h) Cp
def DE.round{f:Nat->Nat->Option UO}{r:UO}(ha:DE f A oT oF)(U:¬A->b=r)(h2:A->E (λN n=>k N n 0 [fF]) r)(hf:∀N n,k N n 0 [bq]=some b):E (λN n=>bO (f N n) (k N n)) r:=alA
end
end Go.Proofs.B
namespace Go.aj
def yK{p:Prop}(h:p:=by exact DE.round (h _ (ei hi) _) U h2 (λ_ _=>rfl)):p:=h
def Bv{p:Prop}(h:p:=by cases h;assumption):p:=h
def alx{p:Prop}(h:p:=by
 constructor
 ·rintro rfl;simp
 ·cases a;cases b;rintro⟨U,h2,h3,h4,h5⟩;simp only at*;subst U h2 h3 h4 h5;rfl):p:=h
def alp{p:Prop}(h:p:=by
 rw [dk hi,dk ca,ix hi hl];exact aW (λh=>aq (U λx=>by simp [gI,AV.toI,x]at h)) λh=>h2 (nk.1 h)):p:=h
end Go.aj
namespace Go.Proofs.B
open Go Go.aj
section
variable{e:CE}{a b:List CE}
def JF{a b:bQ}(hl:a.length<=mx):DV AW [aM (ints a),aM (ints b)] (a=b):=by
 refine bh ae5 (uu (e:=λn=>[iI n]) (λj N n=>Lu (FU CX EE N) N n [aM (ints a),aM (ints b),iI (ln (ints a)),iI (j:Int)]) (1,[]) oF (λ_ _=>rfl) (λ_ _=>rfl) (bF Wn (az eo aH)) λi hi ca r U h2=>bF Wn (bE (dz hi) (aA (cb hi) (aA (cb ca) ?_))));exact alp
def JE{a b:bQ}(hl:a.length<=mx):DV CY [aM (ints a),aM (ints b)] (a=b):=by
 refine bh azm (uu (e:=λn=>[iI n]) (λj N n=>QU (FU CX EE N) N n [aM (ints a),aM (ints b),iI (j:Int)]) (1,[]) oF (λ_ _=>rfl) (λ_ _=>rfl) (bF af1 (az eo aH)) λi hi ca r U h2=>bF af1 (bE (dz hi) (aA (cb hi) (aA (cb ca) ?_))));exact alp
def ai2(hl:a.length<=mx)(h:∀x∈a,∀y,DV Ij [J (aZ x),J (aZ y)] (x=y)):DV zu [bR (a.map aZ),bR (b.map aZ)] (a=b):=by
 refine bh ad0 (uu (e:=aZ) (λj N n=>Lh (FU CX EE N) N n [bR (b.map aZ),bR (a.map aZ),iI (ln (a.map aZ)),iI (j:Int)]) (1,[]) oF (λ_ _=>rfl) (λ_ _=>rfl) (bF VR (az eo aH)) λi hi ca r U h2=>bF VR (bE (dz hi) (aA (cb hi) (aA (cb ca) ?_))));rw [dk hi,dk ca,ix hi hl,iK,iK];exact yK
def ai1(hl:a.length<=mx)(h:∀x∈a,∀y,DV Iq [J (aZ x),J (aZ y)] (x=y)):DV A3 [bR (a.map aZ),bR (b.map aZ)] (a=b):=by
 refine bh ayP (uu (e:=aZ) (λj N n=>QI (FU CX EE N) N n [bR (a.map aZ),bR (b.map aZ),iI (j:Int)]) (1,[]) oF (λ_ _=>rfl) (λ_ _=>rfl) (bF afK (az eo aH)) λi hi ca r U h2=>bF afK (bE (dz hi) (aA (cb hi) (aA (cb ca) ?_))));rw [dk hi,dk ca,ix hi hl,iK,iK];exact yK
def CE.Ok.len(h:e.Ok):e.L.length<=mx:=Bv
def CE.Ok.qk{y:CE}(h:e.Ok)(hy:y∈e.L):y.Ok:=by cases h with|mk _ _ h=>exact h y hy
def CE.eqs{a b:CE}:a=b ↔ a.L=b.L/\a.kind=b.kind/\a.op=b.op/\a.N=b.N/\a.O=b.O/\a.off=b.off/\a.len=b.len/\a.lo=b.lo/\a.hi=b.hi:=by
 constructor
 ·rintro rfl;simp
 ·cases a;cases b;rintro⟨h0,U,h2,h3,h4,h5,h6,h7,h8⟩;simp only [CE.kind,CE.op,CE.N,CE.O,CE.off,CE.len,CE.lo,CE.hi,CE.L]at*;subst h0 U h2 h3 h4 h5 h6 h7 h8;rfl
def CE.Oh{a b:CE}:a=b ↔ a.kind=b.kind/\a.op=b.op/\a.N=b.N/\a.O=b.O/\a.off=b.off/\a.len=b.len/\a.lo=b.lo/\a.hi=b.hi/\a.L=b.L:=by
 rw [CE.eqs];exact⟨λ⟨h0,U,h2,h3,h4,h5,h6,h7,h8⟩=>⟨U,h2,h3,h4,h5,h6,h7,h8,h0⟩,λ⟨U,h2,h3,h4,h5,h6,h7,h8,h0⟩=>⟨h0,U,h2,h3,h4,h5,h6,h7,h8⟩⟩
def ab7(a:CE):a.Ok->∀b,DV Ij [J (aZ a),J (aZ b)] (a=b):=by
 induction a using CE.ind with
 |h a ih=>
  intro ha b;refine DE.iff (bh awM ?_) CE.eqs;rw [zL a,zL b];exact DE.call (ai2 ha.len λx hx y=>ih x hx (ha.qk hx) y) (λ_ _=>rfl) λ_=>DE.yes mN (DE.yes mN (DE.yes mN (DE.yes mN (DE.yes mN (DE.yes mN (DE.yes mN (DE.bool mN)))))))
def ab6(a:CE):a.Ok->∀b,DV Iq [J (aZ a),J (aZ b)] (a=b):=by
 induction a using CE.ind with
 |h a ih=>
  intro ha b;refine DE.iff (bh axd ?_) CE.Oh;rw [zL a,zL b];exact DE.yes mN (DE.yes mN (DE.yes mN (DE.yes mN (DE.yes mN (DE.yes mN (DE.yes mN (DE.yes mN (DE.last (ai1 ha.len λx hx y=>ih x hx (ha.qk hx) y)))))))))
def Nl(ha:Ea a):DV zu [bR (a.map aZ),bR (b.map aZ)] (a=b):=ai2 ha.1 λx hx=>ab7 x (ha.2 x hx)
def Nk(ha:Ea a):DV A3 [bR (a.map aZ),bR (b.map aZ)] (a=b):=ai1 ha.1 λx hx=>ab6 x (ha.2 x hx)
def PL.eqs{a b:PL}:a=b ↔ a.kind=b.kind/\a.O=b.O/\a.off=b.off/\a.len=b.len/\a.E=b.E:=alx
def aCE{a b:PL}(ha:a.Ok):DV Qq [J (cN a),J (cN b)] (a=b):=
 DE.iff (bh av6 (DE.yes mN (DE.yes mN (DE.yes mN (DE.yes mN (DE.last (Nl ha))))))) PL.eqs
def aAm{a b:List PL}(hl:a.length<=mx)(h:∀x∈a,∀y,DV Qq [J (cN x),J (cN y)] (x=y)):DV HS [dj (a.map cN),dj (b.map cN)] (a=b):=by
 refine bh adR (uu (e:=cN) (λj N n=>Le (FU CX EE N) N n [dj (b.map cN),dj (a.map cN),iI (ln (a.map cN)),iI (j:Int)]) (1,[]) oF (λ_ _=>rfl) (λ_ _=>rfl) (bF VM (az eo aH)) λi hi ca r U h2=>bF VM (bE (dz hi) (aA (cb hi) (aA (cb ca) ?_))));rw [dk hi,dk ca,ix hi hl,anU,anU];exact yK
def aiK{a b:List PL}(ha:On a):DV HS [dj (a.map cN),dj (b.map cN)] (a=b):=aAm ha.1 λx hx _=>aCE (ha.2 x hx)
def DE.yB{c:Bool}{P:Prop}{f:Nat->Nat->Option UO}{b r:UO}(hc:c=false ↔ P)(U:¬P->b=r)(h2:P->E f r):E (λN n=>bif c then some b else f N n) r:=
 aW (λh=>aq (U λx=>by rw [hc.2 x]at h;cases h)) λh=>h2 (hc.1 h)
def aiJ{a b:List PL}(ha:On a):DV Q1 [dj (a.map cN),dj (b.map cN)] (a=b):=by
 refine bh ayk (uu (e:=cN) (λj N n=>Qx (FU CX EE N) N n [dj (a.map cN),dj (b.map cN),iI (j:Int)]) (1,[]) oF (λ_ _=>rfl) (λ_ _=>rfl) (bF afu (az eo aH)) λi hi ca r U h2=>bF afu (bE (dz hi) (aA (cb hi) (aA (cb ca) ?_))));rw [dk hi,dk ca,ix hi ha.1];exact DE.yB nk (λx=>U λe=>x (PL.eqs.1 e).1) λe1=>aA (cb hi) (aA (cb ca) (DE.yB nk (λx=>U λe=>x (PL.eqs.1 e).2.1) λe2=>aA (cb hi) (aA (cb ca) (DE.yB nk (λx=>U λe=>x (PL.eqs.1 e).2.2.1) λe3=>aA (cb hi) (aA (cb ca) (DE.yB nk (λx=>U λe=>x (PL.eqs.1 e).2.2.2.1) λe4=>aA (cb hi) (aA (cb ca) (DE.round (Nk (ha.2 _ (ei hi))) (λx=>U λe=>x (PL.eqs.1 e).2.2.2.2) (λe5=>h2 (PL.eqs.2 ⟨e1,e2,e3,e4,e5⟩)) λ_ _=>rfl))))))))
end
section
variable{c:Bool}{a s:CS}{k:Nat->Nat->Nat->ak->Option UO}{A P:Prop}{b b1 g g1:UO}
def DE.pf{f:Nat->Nat->Option UO}(ha:DE f A g1 b1)(hf:∀N n,k N n b1.1 b1.2=some b)(h:A->DE (λN n=>k N n g1.1 g1.2) P g b):DE (λN n=>bO (f N n) (k N n)) (A/\P) g b:=amP
def DE.map{f:Nat->Nat->Option UO}(ha:DE f A g1 b1)(hg:∀N n,k N n g1.1 g1.2=some g)(hf:∀N n,k N n b1.1 b1.2=some b):DE (λN n=>bO (f N n) (k N n)) A g b:=
 .mk (λx=>ah (ha.t x) (DL (g:=λ_ _=>some g) hg aH)) λx=>ah (ha.f x) (DL (g:=λ_ _=>some b) hf aH)
def DE.ans{l:ak}(hc:c=false ↔ A):DE (λ_ _=>some (0,aJ c::l)) A (0,bq::l) (0,fF::l):=
 .mk (λx=>aq (by rw [hc.2 x])) λx=>aq (by cases c;exact absurd (hc.1 rfl) x;rfl)
def DE.gT{f f':Nat->Nat->Option UO}(hc:c=true)(h:DE f P g b):DE (λN n=>bif c then f N n else f' N n) P g b:=M7
def DE.gF{f f':Nat->Nat->Option UO}(hc:c=false)(h:DE f P g b):DE (λN n=>bif c then f' N n else f N n) P g b:=M7
def CD.eqs{a b:CD}:a=b ↔ a.d=b.d/\a.u=b.u:=by
 constructor
 ·rintro rfl;simp
 ·cases a;cases b;rintro⟨U,h2⟩;simp only [CD.d,CD.u]at*;subst U h2;rfl
def CH.eqs{a b:CH}:a=b ↔ a.dP=b.dP/\a.body=b.body:=by
 constructor
 ·rintro rfl;simp
 ·cases a;cases b;rintro⟨U,h2⟩;simp only [CH.dP,CH.body]at*;subst U h2;rfl
def CA.eqs{a b:CA}:a=b ↔ a.kind=b.kind/\a.entry=b.entry/\a.guard=b.guard/\a.E=b.E/\a.body=b.body/\a.after=b.after:=by
 constructor
 ·rintro rfl;simp
 ·cases a;cases b;rintro⟨U,h2,h3,h4,h5,h6⟩;simp only [CA.kind,CA.entry,CA.guard,CA.E,CA.body,CA.after]at*;subst U h2 h3 h4 h5 h6;rfl
def CS.eqs{b:CS}:a=b ↔ (a.f.kind=b.f.kind/\a.f.N=b.f.N/\a.f.O=b.f.O/\a.f.T=b.f.T/\a.f.P=b.f.P/\a.f.entry=b.f.entry/\a.f.mode=b.f.mode)/\(a.f.In=b.f.In/\a.f.rev=b.f.rev/\a.f.lu=b.f.lu/\a.f.els=b.f.els/\a.f.jT=b.f.jT)/\(a.f.E=b.f.E/\a.f.Ins=b.f.Ins/\a.f.Ts=b.f.Ts)/\a.f.To=b.f.To/\a.f.fE=b.f.fE/\a.L=b.L/\a.D=b.D/\a.H=b.H/\a.A=b.A:=by
 constructor
 ·rintro rfl;simp
 ·cases a with|mk f l d h x=>cases b with|mk f' l' d' h' x'=>
  cases f;cases f';simp only [CS.f,CS.L,CS.D,CS.H,CS.A];rintro⟨⟨U,h2,h3,h4,h5,h6,h7⟩,⟨i1,i2,i3,i4,i5⟩,⟨j1,j2,j3⟩,j4,j5,j6,j7,j8,j9⟩;subst U h2 h3 h4 h5 h6 h7 i1 i2 i3 i4 i5 j1 j2 j3 j4 j5 j6 j7 j8 j9;rfl
def aDu{a b:List CS}(hl:a.length<=mx)(h:∀x∈a,∀y,DV u9 [J (encS x),J (encS y)] (x=y)):DV PE [cX (a.map encS),cX (b.map encS)] (a=b):=by
 refine bh adZ (uu (e:=encS) (λj N n=>Lg (FU CX EE N) N n [cX (b.map encS),cX (a.map encS),iI (ln (a.map encS)),iI (j:Int)]) (1,[]) oF (λ_ _=>rfl) (λ_ _=>rfl) (bF VQ (az eo aH)) λi hi ca r U h2=>bF VQ (bE (dz hi) (aA (cb hi) (aA (cb ca) ?_))));rw [dk hi,dk ca,ix hi hl,gE,gE];exact yK
def aLk{a b:List CD}(hl:a.length<=mx)(h:∀x∈a,∀y,DV Qk [J (fC x),J (fC y)] (x=y)):DV Pz [gN (a.map fC),gN (b.map fC)] (a=b):=by
 refine bh adL (uu (e:=fC) (λj N n=>Lc (FU CX EE N) N n [gN (b.map fC),gN (a.map fC),iI (ln (a.map fC)),iI (j:Int)]) (1,[]) oF (λ_ _=>rfl) (λ_ _=>rfl) (bF VK (az eo aH)) λi hi ca r U h2=>bF VK (bE (dz hi) (aA (cb hi) (aA (cb ca) ?_))));rw [dk hi,dk ca,ix hi hl,anW,anW];exact yK
def aKF{a b:List CH}(hl:a.length<=mx)(h:∀x∈a,∀y,DV Qj [J (dH x),J (dH y)] (x=y)):DV Pw [gy (a.map dH),gy (b.map dH)] (a=b):=by
 refine bh adB (uu (e:=dH) (λj N n=>K9 (FU CX EE N) N n [gy (b.map dH),gy (a.map dH),iI (ln (a.map dH)),iI (j:Int)]) (1,[]) oF (λ_ _=>rfl) (λ_ _=>rfl) (bF VG (az eo aH)) λi hi ca r U h2=>bF VG (bE (dz hi) (aA (cb hi) (aA (cb ca) ?_))));rw [dk hi,dk ca,ix hi hl,T3,T3];exact yK
def aLB{a b:List CA}(hl:a.length<=mx)(h:∀x∈a,∀y,DV Qi [J (dY x),J (dY y)] (x=y)):DV PB [eh (a.map dY),eh (b.map dY)] (a=b):=by
 refine bh adS (uu (e:=dY) (λj N n=>Lf (FU CX EE N) N n [eh (b.map dY),eh (a.map dY),iI (ln (a.map dY)),iI (j:Int)]) (1,[]) oF (λ_ _=>rfl) (λ_ _=>rfl) (bF VN (az eo aH)) λi hi ca r U h2=>bF VN (bE (dz hi) (aA (cb hi) (aA (cb ca) ?_))));rw [dk hi,dk ca,ix hi hl,NO,NO];exact yK
abbrev E9(s:CS):Prop:=∀b,DV u9 [J (encS s),J (encS b)] (s=b)
def dC{d:CD}(U:E9 d.d)(h2:E9 d.u)(b:CD):DV Qk [J (fC d),J (fC b)] (d=b):=by
 refine DE.iff (bh avt ?_) CD.eqs;rw [Gx,Gx,Gw,Gw];exact DE.call (U _) (λ_ _=>rfl) λ_=>DE.gT rfl (DE.last (h2 _))
def hC{x:CH}(h0:x.og)(U:E9 x.body)(b:CH):DV Qj [J (dH x),J (dH b)] (x=b):=by
 refine DE.iff (bh avs ?_) CH.eqs;rw [Gv,Gv,Kc,Kc];exact DE.call (JF h0.dP) (λ_ _=>rfl) λ_=>DE.gT rfl (DE.last (U _))
def aC{x:CA}(h0:x.og)(U:E9 x.body)(h2:E9 x.after)(b:CA):DV Qi [J (dY x),J (dY b)] (x=b):=by
 refine DE.iff (bh avr ?_) CA.eqs;rw [JT,JT,DN,DN,DO,DO,Oa,Oa,N9,N9,Ob,Ob];exact DE.yes mN (DE.yes mN (DE.call (ab7 _ h0.guard _) (λ_ _=>rfl) λ_=>DE.gT rfl (DE.call (Nl h0.E) (λ_ _=>rfl) λ_=>DE.gT rfl (DE.call (U _) (λ_ _=>rfl) λ_=>DE.gT rfl (DE.last (h2 _))))))
def CS.Ok.fO(h:s.Ok):s.f.Ok:=Bv
def CS.Ok.lO(h:s.Ok):s.L.length<=mx:=Bv
def CS.Ok.dO(h:s.Ok):s.D.length<=mx:=Bv
def CS.Ok.hO(h:s.Ok):s.H.length<=mx:=Bv
def CS.Ok.aO(h:s.Ok):s.A.length<=mx:=Bv
def CS.Ok.U{s:CS}(h:s.Ok):∀x∈s.H,x.og:=Bv
def CS.Ok.a1(h:s.Ok):∀x∈s.A,x.og:=Bv
def CS.Ok.kO(h:s.Ok):∀y∈s.kids,y.Ok:=Bv
section
variable {f f':dU} {l d h x l' d' h' x':aY}
def c24:DE (λN _=>Qf (FU CX EE N) N [J (eQ f l d h x),J (eQ f' l' d' h' x')]) (f.kind=f'.kind/\f.N=f'.N/\f.O=f'.O/\f.T=f'.T/\f.P=f'.P/\f.entry=f'.entry/\f.mode=f'.mode) (0,[bq,J (eQ f l d h x),J (eQ f' l' d' h' x')]) (0,[fF,J (eQ f l d h x),J (eQ f' l' d' h' x')]):=
 cL ae3 (DE.no nk (DE.no nk (DE.no nk (DE.no nk (DE.no nk (DE.no nk (DE.ans nk)))))))
def aLx:DE (λN _=>P8 (FU CX EE N) N [J (eQ f l d h x),J (eQ f' l' d' h' x')]) (f.In=f'.In/\f.rev=f'.rev/\f.lu=f'.lu/\f.els=f'.els/\f.jT=f'.jT) (0,[bq,J (eQ f l d h x),J (eQ f' l' d' h' x')]) (0,[fF,J (eQ f l d h x),J (eQ f' l' d' h' x')]):=
 cL aeR (DE.no yP (DE.no yP (DE.no yP (DE.no yP (DE.ans yP)))))
def aLw(hf:f.Ok):DE (λN _=>P7 (FU CX EE N) N [J (eQ f l d h x),J (eQ f' l' d' h' x')]) (f.E=f'.E/\f.Ins=f'.Ins/\f.Ts=f'.Ts) (0,[bq,J (eQ f l d h x),J (eQ f' l' d' h' x')]) (0,[fF,J (eQ f l d h x),J (eQ f' l' d' h' x')]):=
 cL aeQ (DE.pf (Nl hf.E) (λ_ _=>rfl) λ_=>DE.gF rfl (DE.pf (Nl hf.Ins) (λ_ _=>rfl) λ_=>DE.gF rfl (DE.map (JF hf.Ts) (λ_ _=>rfl) (λ_ _=>rfl))))
end
def c6{b:CS}(ha:a.Ok)(ih:∀y∈a.kids,E9 y):DE (λN _=>Ql (FU CX EE N) N [J (encS a),J (encS b)]) ((a.f.kind=b.f.kind/\a.f.N=b.f.N/\a.f.O=b.f.O/\a.f.T=b.f.T/\a.f.P=b.f.P/\a.f.entry=b.f.entry/\a.f.mode=b.f.mode)/\(a.f.In=b.f.In/\a.f.rev=b.f.rev/\a.f.lu=b.f.lu/\a.f.els=b.f.els/\a.f.jT=b.f.jT)/\(a.f.E=b.f.E/\a.f.Ins=b.f.Ins/\a.f.Ts=b.f.Ts)/\a.f.To=b.f.To/\a.f.fE=b.f.fE/\a.L=b.L) (0,[J (encS a),J (encS b)]) (1,[bq,J (encS a),J (encS b)]):=by
 refine cL afb ?_;rw [xI a,xI b];exact DE.pf c24 (λ_ _=>rfl) λ_=>DE.gF rfl (DE.pf aLx (λ_ _=>rfl) λ_=>DE.gF rfl (DE.pf (aLw ha.fO) (λ_ _=>rfl) λ_=>DE.gF rfl (DE.pf (aiK ha.fO.To) (λ_ _=>rfl) λ_=>DE.gF rfl (DE.pf (aiK ha.fO.fE) (λ_ _=>rfl) λ_=>DE.gF rfl (DE.map (aDu ha.lO λy hy=>ih y (yR hy)) (λ_ _=>rfl) (λ_ _=>rfl))))))
def aDh{a b c d e f g:Prop}:a/\b/\c/\d/\e/\f/\g ↔ (a/\b/\c/\d/\e/\f)/\g:=by simp only [and_assoc]
def amm(a:CS):a.Ok->E9 a:=by
 induction a using CS.ind with
 |h a ih=>
  intro ha b;have qK:∀y∈a.kids,E9 y:=λy hy=>ih y hy (ha.kO y hy);refine DE.iff (bh afF ?_) (CS.eqs.trans aDh);refine DE.pf (c6 ha qK) (λ_ _=>rfl) λ_=>DE.gT rfl ?_;rw [xI a,xI b];exact DE.call (aLk ha.dO λx hx y=>dC (qK _ (wU hx).1) (qK _ (wU hx).2) y) (λ_ _=>rfl) λ_=>DE.gT rfl (DE.call (aKF ha.hO λx hx y=>hC (ha.U x hx) (qK _ (GI hx)) y) (λ_ _=>rfl) λ_=>DE.gT rfl (DE.last (aLB ha.aO λx hx y=>aC (ha.a1 x hx) (qK _ (wV hx).1) (qK _ (wV hx).2) y)))
end
def aDt{a b:List CS}(hl:a.length<=mx)(h:∀x∈a,∀y,DV yo [J (encS x),J (encS y)] (x=y)):DV YB [cX (a.map encS),cX (b.map encS)] (a=b):=by
 refine bh ayO (uu (e:=encS) (λj N n=>QH (FU CX EE N) N n [cX (a.map encS),cX (b.map encS),iI (j:Int)]) (1,[]) oF (λ_ _=>rfl) (λ_ _=>rfl) (bF afJ (az eo aH)) λi hi ca r U h2=>bF afJ (bE (dz hi) (aA (cb hi) (aA (cb ca) ?_))));rw [dk hi,dk ca,ix hi hl,gE,gE];exact yK
abbrev K7(s:CS):Prop:=∀b,DV yo [J (encS s),J (encS b)] (s=b)
section
variable {f f':dU} {l d h x l' d' h' x':aY}
def apV:gR (eQ f l d h x) 18=d:=rfl
def apU:gR (eQ f l d h x) 19=h:=rfl
def apT:gR (eQ f l d h x) 20=x:=rfl
def r6:DE (λN _=>XA (FU CX EE N) N [J (eQ f l d h x),J (eQ f' l' d' h' x')]) (f.kind=f'.kind/\f.N=f'.N/\f.O=f'.O/\f.T=f'.T/\f.P=f'.P/\f.entry=f'.entry/\f.In=f'.In/\f.rev=f'.rev/\f.lu=f'.lu/\f.els=f'.els/\f.jT=f'.jT/\f.mode=f'.mode/\True) (0,[J (eQ f l d h x),J (eQ f' l' d' h' x')]) (1,[bq,J (eQ f l d h x),J (eQ f' l' d' h' x')]):=
 cL avT (DE.no nk (DE.no nk (DE.no nk (DE.no nk (DE.no nk (DE.no nk (DE.no yP (DE.no yP (DE.no yP (DE.no yP (DE.no yP (DE.no nk DE.done))))))))))))
end
section
variable {a b:CS}
abbrev iw(s:CS):ak:=eQ s.f (s.L.map encS) (s.D.map fC) (s.H.map dH) (s.A.map dY)
abbrev Vx(a b:CS):UO:=(0,[J (iw a),J (iw b)])
abbrev VD(a b:CS):UO:=(1,[bq,J (iw a),J (iw b)])
def ly(hf:a.Ok)(ih:∀y∈a.kids,K7 y):DE (λN _=>Xq (FU CX EE N) N [J (iw a),J (iw b)]) (a.f.E=b.f.E/\a.f.Ins=b.f.Ins/\a.f.To=b.f.To/\a.f.fE=b.f.fE/\a.f.Ts=b.f.Ts/\a.L=b.L) (Vx a b) (VD a b):=by
 refine cL avh ?_;exact(DE.pf (Nk hf.fO.E) (λ_ _=>rfl) λ_=>DE.gF rfl (DE.pf (Nk hf.fO.Ins) (λ_ _=>rfl) λ_=>DE.gF rfl (DE.pf (aiJ hf.fO.To) (λ_ _=>rfl) λ_=>DE.gF rfl (DE.pf (aiJ hf.fO.fE) (λ_ _=>rfl) λ_=>DE.gF rfl (DE.pf (JE hf.fO.Ts) (λ_ _=>rfl) λ_=>DE.gF rfl (DE.map (aDt hf.lO λy hy=>ih y (yR hy)) (λ_ _=>rfl) (λ_ _=>rfl)))))))
def r30:DE (λN _=>Xp (FU CX EE N) N [J (iw a),J (iw b)]) (a.D.length=b.D.length/\a.H.length=b.H.length/\a.A.length=b.A.length/\True) (Vx a b) (VD a b):=by
 refine cL avg ?_;simp only [iw,apV,apU,apT];exact DE.no BM (DE.no BM (DE.no BM DE.done))
def r62(ha:a.Ok)(ih:∀y∈a.kids,K7 y)(hl:a.D.length=b.D.length):DE (λN _=>Xo (FU CX EE N) N [J (iw a),J (iw b)]) (a.D=b.D) (Vx a b) (VD a b):=by
 refine cL avf (DE.map (g1:=(1,[J (iw a),J (iw b)])) (b1:=(0,[bq,J (iw a),J (iw b)])) ?_ (λ_ _=>rfl) (λ_ _=>rfl));exact E.diag (DC (LF:=λj N n=>Qd (FU CX EE N) N n [iI (j:Int),J (iw a),J (iw b)]) (done:=(1,[J (iw a),J (iw b)])) (bad:=(0,[bq,J (iw a),J (iw b)])) hl (by
  exact bF aeW (az eo aH)) λi hi ca r U h2=>by
  refine bF aeW ?_;simp only [iw,apV];refine bE (dz hi) (aA (cb hi) (aA (cb ca) ?_));rw [dk hi,dk ca,ix hi ha.dO,Gx,Gx,Gw,Gw];obtain⟨k1,k2⟩:=wU (ei hi);exact DE.round (ih _ k1 _) (λx=>U λe=>x (CD.eqs.1 e).1) (λe1=>av (aA (cb hi) (aA (cb ca) (DE.round (ih _ k2 _) (λx=>U λe=>x (CD.eqs.1 e).2) (λe2=>av (h2 (CD.eqs.2 ⟨e1,e2⟩))) λ_ _=>rfl)))) λ_ _=>rfl)
def aJQ(ha:a.Ok)(ih:∀y∈a.kids,K7 y)(hl:a.H.length=b.H.length):DE (λN _=>Xj (FU CX EE N) N [J (iw a),J (iw b)]) (a.H=b.H) (Vx a b) (VD a b):=by
 refine cL auF (DE.map (g1:=(1,[J (iw a),J (iw b)])) (b1:=(0,[bq,J (iw a),J (iw b)])) ?_ (λ_ _=>rfl) (λ_ _=>rfl));exact E.diag (DC (LF:=λj N n=>Qc (FU CX EE N) N n [iI (j:Int),J (iw a),J (iw b)]) (done:=(1,[J (iw a),J (iw b)])) (bad:=(0,[bq,J (iw a),J (iw b)])) hl (by
  exact bF aeV (az eo aH)) λi hi ca r U h2=>by
  refine bF aeV ?_;simp only [iw,apU];refine bE (dz hi) (aA (cb hi) (aA (cb ca) ?_));rw [dk hi,dk ca,ix hi ha.hO,Gv,Gv,Kc,Kc];exact DE.round (JE (ha.U _ (ei hi)).dP) (λx=>U λe=>x (CH.eqs.1 e).1) (λe1=>av (aA (cb hi) (aA (cb ca) (DE.round (ih _ (GI (ei hi)) _) (λx=>U λe=>x (CH.eqs.1 e).2) (λe2=>av (h2 (CH.eqs.2 ⟨e1,e2⟩))) λ_ _=>rfl)))) λ_ _=>rfl)
def aDR(ha:a.Ok)(ih:∀y∈a.kids,K7 y)(hl:a.A.length=b.A.length):DE (λN n=>LC (FU CX EE N) N N [iI 0,J (iw a),J (iw b)]) (a.A=b.A) (1,[J (iw a),J (iw b)]) (0,[bq,J (iw a),J (iw b)]):=by
 exact E.diag (DC (LF:=λj N n=>LC (FU CX EE N) N n [iI (j:Int),J (iw a),J (iw b)]) (done:=(1,[J (iw a),J (iw b)])) (bad:=(0,[bq,J (iw a),J (iw b)])) hl (by
  exact bF aeO (az eo aH)) λi hi ca r U h2=>by
  refine bF aeO ?_;simp only [iw,apT];refine bE (dz hi) (aA (cb hi) (aA (cb ca) ?_));rw [dk hi,dk ca,ix hi ha.aO,JT,JT,DN,DN,DO,DO,Oa,Oa,N9,N9,Ob,Ob];obtain⟨k1,k2⟩:=wV (ei hi);have o1:=ha.a1 _ (ei hi);exact DE.yB nk (λx=>U λe=>x (CA.eqs.1 e).1) λe1=>DE.yB nk (λx=>U λe=>x (CA.eqs.1 e).2.1) λe2=>DE.round (ab6 _ o1.guard _) (λx=>U λe=>x (CA.eqs.1 e).2.2.1) (λe3=>av (DE.round (Nk o1.E) (λx=>U λe=>x (CA.eqs.1 e).2.2.2.1) (λe4=>av (DE.round (ih _ k1 _) (λx=>U λe=>x (CA.eqs.1 e).2.2.2.2.1) (λe5=>av (DE.round (ih _ k2 _) (λx=>U λe=>x (CA.eqs.1 e).2.2.2.2.2) (λe6=>av (h2 (CA.eqs.2 ⟨e1,e2,e3,e4,e5,e6⟩))) λ_ _=>rfl)) λ_ _=>rfl)) λ_ _=>rfl)) λ_ _=>rfl)
end
def CS.Oh{a b:CS}:a=b ↔ (a.f.kind=b.f.kind/\a.f.N=b.f.N/\a.f.O=b.f.O/\a.f.T=b.f.T/\a.f.P=b.f.P/\a.f.entry=b.f.entry/\a.f.In=b.f.In/\a.f.rev=b.f.rev/\a.f.lu=b.f.lu/\a.f.els=b.f.els/\a.f.jT=b.f.jT/\a.f.mode=b.f.mode/\True)/\(a.f.E=b.f.E/\a.f.Ins=b.f.Ins/\a.f.To=b.f.To/\a.f.fE=b.f.fE/\a.f.Ts=b.f.Ts/\a.L=b.L)/\(a.D.length=b.D.length/\a.H.length=b.H.length/\a.A.length=b.A.length/\True)/\a.D=b.D/\a.H=b.H/\a.A=b.A:=by
 rw [CS.eqs];constructor
 ·rintro⟨⟨U,h2,h3,h4,h5,h6,h7⟩,⟨i1,i2,i3,i4,i5⟩,⟨j1,j2,j3⟩,j4,j5,j6,j7,j8,j9⟩;exact⟨⟨U,h2,h3,h4,h5,h6,i1,i2,i3,i4,i5,h7,trivial⟩,⟨j1,j2,j4,j5,j3,j6⟩,⟨by rw [j7],by rw [j8],by rw [j9],trivial⟩,j7,j8,j9⟩
 ·rintro⟨⟨U,h2,h3,h4,h5,h6,i1,i2,i3,i4,i5,h7,_⟩,⟨j1,j2,j4,j5,j3,j6⟩,_,j7,j8,j9⟩;exact⟨⟨U,h2,h3,h4,h5,h6,h7⟩,⟨i1,i2,i3,i4,i5⟩,⟨j1,j2,j3⟩,j4,j5,j6,j7,j8,j9⟩
def aml(a:CS):a.Ok->K7 a:=by
 induction a using CS.ind with
 |h a ih=>
  intro ha b;have qK:∀y∈a.kids,K7 y:=λy hy=>ih y hy (ha.kO y hy);refine DE.iff (bh axc ?_) CS.Oh;rw [xI a,xI b];exact DE.pf r6 (λ_ _=>rfl) λ_=>DE.gT rfl (DE.pf (ly ha qK) (λ_ _=>rfl) λ_=>DE.gT rfl (DE.pf r30 (λ_ _=>rfl) λhl=>DE.gT rfl (DE.pf (r62 ha qK hl.1) (λ_ _=>rfl) λ_=>DE.gT rfl (DE.pf (aJQ ha qK hl.2.1) (λ_ _=>rfl) λ_=>DE.gT rfl (DE.map (aDR ha qK hl.2.2.1) (λ_ _=>rfl) (λ_ _=>rfl))))))
end Go.Proofs.B
namespace Go.aj
def als{p:Prop}(h:p:=by
 constructor
 ·rintro rfl;simp
 ·cases a;cases b;rintro⟨U,h2,h3,h4⟩;simp only at*;subst U h2 h3 h4;rfl):p:=h
def aa6{p:Prop}(h:p:=by unfold dv;cases t.body with|mk=>rfl):p:=h
end Go.aj
namespace Go.aj
def IK:=@List.getD_cons_zero
def Mw:=@List.getD_cons_succ
end Go.aj
namespace Go.Proofs.B
open Go Go.aj
section
variable{f:Nat->Nat->Option UO}{b p q:PG}{A:Prop}{a t u:TK}
def OB.eqs{a b:OB}:a=b ↔ a.size=b.size/\a.lo=b.lo/\a.hi=b.hi/\a.ptr=b.ptr/\a.set=b.set:=alx
def EN.eqs{a b:EN}:a=b ↔ a.ins=b.ins/\a.outs=b.outs:=by
 constructor
 ·rintro rfl;simp
 ·cases a;cases b;rintro⟨U,h2⟩;simp only at*;subst U h2;rfl
def PR.eqs{a b:PR}:a=b ↔ a.ceil=b.ceil/\a.kV=b.kV/\a.bars=b.bars:=by
 constructor
 ·rintro rfl;simp
 ·cases a;cases b;rintro⟨U,h2,h3⟩;simp only at*;subst U h2 h3;rfl
def TK.eqs{b:TK}:a=b ↔ a.prio=b.prio/\a.dead=b.dead/\a.aU=b.aU/\a.body=b.body:=als
def PG.eqs{a:PG}:a=b ↔ a.dP=b.dP/\a.aR=b.aR/\a.tasks=b.tasks/\a.c5=b.c5:=als
def uO(s:OB):bg Q9 0 (cg s)=cg s:=rfl
def uQ(q:PR):bg QZ 0 (gk q)=gk q:=rfl
def uG(p:PG):bg Yg 0 (km p)=km p:=rfl
def uT(t:TK):bg agt 0 (dv t)=dv t:=aa6
def GY(t:TK):bg fU 2 (dv t)=encS t.body:=aa6
def Vy(t:TK):gI (dv t) 23=t.dead:=aa6
def Pk(t:TK):gR (dv t) 1=t.aU.map iH:=rfl
def gG0(p:PG):gR (km p) 0=p.aR.map cg:=rfl
def KW(p:PG):gR (km p) 2=p.tasks.map dv:=rfl
def gG3(p:PG):gR (km p) 3=p.c5.map gk:=rfl
abbrev jw(p:PG):AV:= J (km p)
def aJ7{a:OB}(ha:a.Ok)(b:OB):DV QS [J (cg a),J (cg b)] (a=b):=
 DE.iff (bh axX (DE.yes mN (DE.yes mN (DE.yes mN (DE.yes aLf (DE.last (JF ha))))))) OB.eqs
def aLj{a:EN}(ha:a.Ok)(b:EN):DV QR [J (iH a),J (iH b)] (a=b):=
 DE.iff (bh axW (DE.call (JF ha.1) (λ_ _=>rfl) λ_=>DE.gT rfl (DE.last (JF ha.2)))) EN.eqs
def aJT{a:PR}(ha:a.Ok)(b:PR):DV QQ [J (gk a),J (gk b)] (a=b):=
 DE.iff (bh axU (DE.yes mN (DE.call (JF ha.kV) (λ_ _=>rfl) λ_=>DE.gT rfl (DE.last (Nl ha.bars))))) PR.eqs
def aJ4{a b:List OB}(hl:a.length<=mx)(h:∀x∈a,∀y,DV QS [J (cg x),J (cg y)] (x=y)):DV V2 [bl (a.map cg),bl (b.map cg)] (a=b):=by
 refine bh aq5 (uu (e:=cg) (λj N n=>PI (FU CX EE N) N n [bl (b.map cg),bl (a.map cg),iI (ln (a.map cg)),iI (j:Int)]) (1,[]) oF (λ_ _=>rfl) (λ_ _=>rfl) (bF ad4 (az eo aH)) λi hi ca r U h2=>bF ad4 (bE (dz hi) (aA (cb hi) (aA (cb ca) ?_))));rw [dk hi,dk ca,ix hi hl,uO,uO];exact yK
def aLi{a b:List EN}(hl:a.length<=mx)(h:∀x∈a,∀y,DV QR [J (iH x),J (iH y)] (x=y)):DV VZ [oh (a.map iH),oh (b.map iH)] (a=b):=by
 refine bh aqY (uu (e:=iH) (λj N n=>PD (FU CX EE N) N n [oh (b.map iH),oh (a.map iH),iI (ln (a.map iH)),iI (j:Int)]) (1,[]) oF (λ_ _=>rfl) (λ_ _=>rfl) (bF adP (az eo aH)) λi hi ca r U h2=>bF adP (bE (dz hi) (aA (cb hi) (aA (cb ca) ?_))));rw [dk hi,dk ca,ix hi hl];exact yK
def aJS{a b:List PR}(hl:a.length<=mx)(h:∀x∈a,∀y,DV QQ [J (gk x),J (gk y)] (x=y)):DV V1 [kq (a.map gk),kq (b.map gk)] (a=b):=by
 refine bh aq2 (uu (e:=gk) (λj N n=>PH (FU CX EE N) N n [kq (b.map gk),kq (a.map gk),iI (ln (a.map gk)),iI (j:Int)]) (1,[]) oF (λ_ _=>rfl) (λ_ _=>rfl) (bF adY (az eo aH)) λi hi ca r U h2=>bF adY (bE (dz hi) (aA (cb hi) (aA (cb ca) ?_))));rw [dk hi,dk ca,ix hi hl,uQ,uQ];exact yK
abbrev Ct:AV:= J [.eJ 59 [] []]
def DE.aEh{l:ak}(ha:DE f A oT oF):DE (λN n=>bO (f N n) λ_ o=>some (0,aJ (gB o 0)::l)) A (0,fF::l) (0,bq::l):=
 .mk (λx=>ah (ha.t x) aH) λx=>ah (ha.f x) aH
def aE9(ha:a.Ok)(b:TK):DE (λN _=>FU CX EE N X8 [J (dv a),J (dv b),Ct]) (a=b) (0,[fF,Ct]) (0,[bq,Ct]):=by
 refine DE.iff (bh axV ?_) TK.eqs;rw [Vy,Vy,Pk,Pk,GY,GY];exact DE.yes mN (DE.yes mN (DE.pf (aLi ha.len λe he y=>aLj (ha.aU e he) y) (λ_ _=>rfl) λ_=>DE.gT rfl (DE.aEh (amm a.body ha.body b.body))))
def DE.aat{k:Nat->Nat->Nat->ak->Option UO}{g1 b1 b r:UO}(ha:DE f A g1 b1)(U:¬A->b=r)(h2:A->E (λN n=>k N n g1.1 g1.2) r)(hf:∀N n,k N n b1.1 b1.2=some b):E (λN n=>bO (f N n) (k N n)) r:=alA
def aE8{a b:List TK}(hl:a.length<=mx)(h:∀t∈a,t.Ok):DE (λN _=>FU CX EE N V0 [jr (a.map dv),jr (b.map dv),Ct]) (a=b) (0,[fF,Ct]) (0,[bq,Ct]):=by
 refine bh aq1 (uu (e:=dv) (λj N n=>PF (FU CX EE N) N n [jr (b.map dv),jr (a.map dv),iI (ln (a.map dv)),iI (j:Int),Ct]) (1,[Ct]) (0,[bq,Ct]) (λ_ _=>rfl) (λ_ _=>rfl) (bF adX (az eo aH)) λi hi ca r U h2=>bF adX (bE (dz hi) (aA (cb hi) (aA (cb ca) ?_))));rw [dk hi,dk ca,ix hi hl,uT,uT];exact DE.aat (aE9 (h _ (ei hi)) _) U (λx=>av (h2 x)) (λ_ _=>rfl)
def abE(hp:p.Ok):DV Mi [jw p,jw q] (p=q):=
 DE.iff (bh ayW (DE.yes mN (DE.call (aJ4 hp.aR λx hx y=>aJ7 (hp.obj x hx) y) (λ_ _=>rfl) λ_=>DE.gT rfl (DE.pf (aE8 hp.tasks hp.task) (λ_ _=>rfl) λ_=>DE.gT rfl (DE.last (aJS hp.c5 λx hx y=>aJT (hp.ov x hx) y)))))) PG.eqs
abbrev gP(p q:PG):UO:=(0,[jw p,jw q])
abbrev KV(p q:PG):UO:=(1,[jw p,jw q])
abbrev bP(p q:PG):UO:=(1,[bq,jw p,jw q])
abbrev K5(p q:PG):UO:=(0,[bq,jw p,jw q])
def aFc:DE (λN _=>Yt (FU CX EE N) N [jw p,jw q]) (p.dP=q.dP/\p.aR.length=q.aR.length/\p.tasks.length=q.tasks.length/\p.c5.length=q.c5.length/\True) (gP p q) (bP p q):=by
 refine cL ayi ?_;simp only [gG0,KW,gG3];exact DE.no nk (DE.no BM (DE.no BM (DE.no BM DE.done)))
def aDD(hp:p.Ok)(hl:p.aR.length=q.aR.length):DE (λN _=>Yd (FU CX EE N) N [jw p,jw q]) (p.aR=q.aR) (gP p q) (bP p q):=by
 refine cL axN (DE.map (g1:=KV p q) (b1:=K5 p q) ?_ (λ_ _=>rfl) (λ_ _=>rfl));rw [uG,uG];exact E.diag (DC (LF:=λj N n=>QV (FU CX EE N) N n [iI (j:Int),jw p,jw q]) (done:=KV p q) (bad:=K5 p q) hl (bF af2 (az eo aH)) λi hi ca r U h2=>by
  refine bF af2 ?_;simp only [gG0,uG];refine bE (dz hi) (aA (cb hi) (aA (cb ca) ?_));rw [dk hi,dk ca,ix hi hp.aR];exact DE.yB nk (λx=>U λe=>x (OB.eqs.1 e).1) λe1=>DE.yB nk (λx=>U λe=>x (OB.eqs.1 e).2.1) λe2=>DE.yB nk (λx=>U λe=>x (OB.eqs.1 e).2.2.1) λe3=>DE.yB yP (λx=>U λe=>x (OB.eqs.1 e).2.2.2.1) λe4=>DE.round (JE (hp.obj _ (ei hi))) (λx=>U λe=>x (OB.eqs.1 e).2.2.2.2) (λe5=>av (h2 (OB.eqs.2 ⟨e1,e2,e3,e4,e5⟩))) λ_ _=>rfl)
abbrev sv(t:TK):AV:= J (dv t)
def aBd(ht:t.Ok):DE (λN _=>XP (FU CX EE N) N [sv t,sv u]) (t.prio=u.prio/\t.dead=u.dead/\t.aU.length=u.aU.length/\t.body=u.body) (0,[sv t,sv u]) (1,[bq,sv t,sv u]):=by
 refine cL awD ?_;rw [Vy,Vy,Pk,Pk,GY,GY,uT,uT];exact DE.no nk (DE.no nk (DE.no BM (DE.map (aml t.body ht.body u.body) (λ_ _=>rfl) (λ_ _=>rfl))))
def aAe(ht:t.Ok)(hl:t.aU.length=u.aU.length):DE (λN n=>LN (FU CX EE N) N N [iI 0,sv t,sv u]) (t.aU=u.aU) (1,[sv t,sv u]) (0,[bq,sv t,sv u]):=
 E.diag (DC (LF:=λj N n=>LN (FU CX EE N) N n [iI (j:Int),sv t,sv u]) (done:=(1,[sv t,sv u])) (bad:=(0,[bq,sv t,sv u])) hl (bF afk (by rw [uT,uT];exact az eo aH)) λi hi ca r U h2=>by
  refine bF afk ?_;simp only [Pk,uT];refine bE (dz hi) (aA (cb hi) (aA (cb ca) ?_));rw [dk hi,dk ca,ix hi ht.len];have ho:=ht.aU _ (ei hi);exact DE.round (JE ho.1) (λx=>U λe=>x (EN.eqs.1 e).1) (λe1=>av (aA (cb hi) (aA (cb ca) (DE.round (JE ho.2) (λx=>U λe=>x (EN.eqs.1 e).2) (λe2=>av (h2 (EN.eqs.2 ⟨e1,e2⟩))) λ_ _=>rfl)))) λ_ _=>rfl)
def aDC(hp:p.Ok)(hl:p.tasks.length=q.tasks.length):DE (λN _=>Yc (FU CX EE N) N [jw p,jw q]) (p.tasks=q.tasks) (gP p q) (bP p q):=by
 refine cL axM (DE.map (g1:=KV p q) (b1:=K5 p q) ?_ (λ_ _=>rfl) (λ_ _=>rfl));rw [uG,uG];exact E.diag (DC (LF:=λj N n=>QJ (FU CX EE N) N n [iI (j:Int),jw p,jw q]) (done:=KV p q) (bad:=K5 p q) hl (bF afM (az eo aH)) λi hi ca r U h2=>by
  refine bF afM ?_;simp only [KW,uG];refine bE (dz hi) (aA (cb hi) (aA (cb ca) ?_));rw [dk hi,dk ca,ix hi hp.tasks,uT,uT];have ho:=hp.task _ (ei hi);refine DE.aat (aBd ho) (λx=>U λe=>x (by rw [e];exact⟨rfl,rfl,rfl,rfl⟩)) (λe1=>bp ?_) λ_ _=>rfl;simp only [gC,IK,Mw,AV.cells,uT];exact DE.aat (aAe ho e1.2.2.1) (λx=>U λe=>x (by rw [e])) (λe2=>av (h2 (TK.eqs.2 ⟨e1.1,e1.2.1,e2,e1.2.2.2⟩))) λ_ _=>rfl)
def aCp(hp:p.Ok)(hl:p.c5.length=q.c5.length):DE (λN n=>LX (FU CX EE N) N N [iI 0,jw p,jw q]) (p.c5=q.c5) (KV p q) (K5 p q):=
 E.diag (DC (LF:=λj N n=>LX (FU CX EE N) N n [iI (j:Int),jw p,jw q]) (done:=KV p q) (bad:=K5 p q) hl (bF afL (az eo aH)) λi hi ca r U h2=>by
  refine bF afL ?_;simp only [gG3,uG];refine bE (dz hi) (aA (cb hi) (aA (cb ca) ?_));rw [dk hi,dk ca,ix hi hp.c5];have ho:=hp.ov _ (ei hi);exact DE.yB nk (λx=>U λe=>x (PR.eqs.1 e).1) λe1=>DE.round (JE ho.kV) (λx=>U λe=>x (PR.eqs.1 e).2.1) (λe2=>av (DE.round (Nk ho.bars) (λx=>U λe=>x (PR.eqs.1 e).2.2) (λe3=>av (h2 (PR.eqs.2 ⟨e1,e2,e3⟩))) λ_ _=>rfl)) λ_ _=>rfl)
def PG.Oh{a:PG}:a=b ↔ (a.dP=b.dP/\a.aR.length=b.aR.length/\a.tasks.length=b.tasks.length/\a.c5.length=b.c5.length/\True)/\a.aR=b.aR/\a.tasks=b.tasks/\a.c5=b.c5:=by
 rw [PG.eqs];exact⟨λ⟨U,h2,h3,h4⟩=>⟨⟨U,by rw [h2],by rw [h3],by rw [h4],trivial⟩,h2,h3,h4⟩,λ⟨U,h2,h3,h4⟩=>⟨U.1,h2,h3,h4⟩⟩
def aDL(hp:p.Ok):DV YW [jw p,jw q] (p=q):=
 DE.iff (bh azn (DE.pf aFc (λ_ _=>rfl) λhl=>DE.gT rfl (DE.pf (aDD hp hl.2.1) (λ_ _=>rfl) λ_=>DE.gT rfl (DE.pf (aDC hp hl.2.2.1) (λ_ _=>rfl) λ_=>DE.gT rfl (DE.map (aCp hp hl.2.2.2.1) (λ_ _=>rfl) (λ_ _=>rfl)))))) PG.Oh
end
end Go.Proofs.B
namespace Go.aj
def pK{p:Prop}(h:p:=by kernel_rfl):p:=h
end Go.aj
namespace Go.Proofs.B.X
open Go Go.aj
set_option maxRecDepth 1000000
abbrev hN:CE:= .mk 1 0 1 0 0 0 0 0 []
abbrev hO:CE:= .mk 2 0 0 0 0 0 0 0 []
abbrev hS:CE:= .mk 5 1 0 0 0 0 0 0 [hO,hN]
abbrev hB(e:CE):CS:= .mk ⟨2,0,0,0,0,0,false,false,false,false,false,0,[e],[],[⟨1,0,0,0,[]⟩],[],[]⟩ [] [] [] []
abbrev hP(e:CE):PG:=⟨[⟨1,0,9,false,[]⟩],4,[⟨1,[],hB e,0⟩],[]⟩
abbrev hE:CE:= .mk 9 0 0 0 0 0 0 9 [hS]
def adf:Ev Q2 [iI 1] (0,[J (aZ hN)]):=bh aym aH
def ade:Ev RX [J (aZ hO),J (aZ hN)] (0,[J [cE 5,cE 1,iI 0,iI 0,iI 0,iI 0,iI 0,iI 0,.au 0],bR [aZ hO,aZ hN]]):=bh azS aH
abbrev hX(e:CE):UO:=(0,[J [.au 0,iI 4,.au 1,kq []],bl ((hP e).aR.map cg),jr ((hP e).tasks.map dv)])
def aK2:Ev LZ [fF] (hX hE):=bh af5 (ah adf (ah ade (bp aH)))
def aK3:Ev LZ [bq] (hX hS):=bh af5 (ah adf (ah ade (av aH)))
abbrev KQ(e:Nat×ak×UO):Prop:=Ev e.1 e.2.1 e.2.2
abbrev kM(e:CE)(b:Bool):Nat×ak×UO:=(yr,[J (km (hP e))],(0,[aJ b]))
def hRg:Ev agG [J (km (hP hE)),J (aZ hS)] (0,[iI (-2147483648),iI 2147483647,fF]):=kn [] 30 trivial λM=>pK
def hNd:Ev agH [J (encS (hB hE))] (0,[iI 1]):=kn [] 30 trivial λM=>pK
def hM1:KQ (kM hE true):=kn [] 30 trivial λM=>pK
def hM0:KQ (kM hS false):=kn [] 30 trivial λM=>pK
def hAl:Ev ahq [J (km (hP hE))] (0,[cX [encS (hB hE)]]):=kn [kM hE true] 30 ⟨hM1,trivial⟩ λM=>pK
end Go.Proofs.B.X
namespace Go.aj
def ZK:=@List.takeWhile_cons
def ZJ:=@List.dropWhile_cons
end Go.aj
namespace Go.Proofs.B.T
open Go Go.aj
section
variable{d:Nat}
abbrev Tx:=List UInt8
variable{t:Tx}
def sg(c:UInt8):Bool:=decide (48<=c.toNat)&&decide (c.toNat<=57)
def val(l:Tx):Nat:=l.foldl (λv c=>10*v+(c.toNat- 48)) 0
def az6(l:Tx)(c:UInt8):val (l++[c])=10*val l+(c.toNat- 48):=by simp [val,List.foldl_append]
def aac(h:d<10):(UInt8.ofNat (48+d)).toNat =48+d:=by
 rw [UInt8.toNat_ofNat'];omega
def al4(h:d<10):sg (UInt8.ofNat (48+d))=true:=by
 unfold sg;rw [aac h];simp;omega
def YK:∀(u:Nat),(∀c∈Lib.decDigits u,sg c=true)/\val (Lib.decDigits u)=u/\Lib.decDigits u≠ []:=by
 intro u
 induction u using Nat.strongRecOn with
 |_ u ih=>
  rw [Lib.decDigits];split
  ·rename_i h;refine⟨λc hc=> ?_,?_,by simp⟩
   ·rw [my.1 hc];exact al4 h
   ·simp only [val,Zg,List.foldl_nil];rw [aac h];omega
  ·obtain⟨a,b,_⟩:=ih (u/10) (by omega);have hm:u %10<10:=Nat.mod_lt _ (bM);refine⟨λc hc=> ?_,?_,by simp⟩
   ·rcases mE.1 hc with hc|hc
    ·exact a c hc
    ·rw [my.1 hc];exact al4 hm
   ·rw [az6,b,aac hm];omega
def Nd(r:Tx):Prop:=∀c t,r=c::t->sg c=false
def aCK:Nd []:=λ_ _ h=>aD
def im{c:UInt8}(h:sg c=false):Nd (c::t):=λ_ _ e=>by injection e with e1 _;rw [<-e1];exact h
def aap:∀{l r:Tx},(∀c∈l,sg c=true)->Nd r->(l++r).takeWhile sg=l/\(l++r).dropWhile sg=r
 | [],r,_,hr=>by
   cases r with
   |nil=>exact⟨rfl,rfl⟩
   |cons c t=>
    have:=hr c t rfl;simp [this]
 |c::l,r,h,hr=>by
  have U:=h c (ez ..);obtain⟨a,b⟩:=aap (l:=l) (r:=r) (λx hx=>h x (fJ _ hx)) hr;simp only [hY,ZK,ZJ,U,lG];exact⟨by rw [a],b⟩
def eK(t:Tx):Int×Tx:=
 match t with
 |45::t=>(-(val (t.takeWhile sg):Int),t.dropWhile sg)
 |t=>((val (t.takeWhile sg):Int),t.dropWhile sg)
def aBi(h:∀t',t≠45::t'):eK t=((val (t.takeWhile sg):Int),t.dropWhile sg):=by
 unfold eK;split
 ·rename_i t';exact absurd rfl (h t')
 ·rfl
def iR(n:Int){r:Tx}(hr:Nd r):eK (Lib.itoa n++r)=(n,r):=by
 unfold Lib.itoa;split
 ·rename_i h;obtain⟨a,b,_⟩:=YK n.natAbs;obtain⟨c,d⟩:=aap a hr;show(-(val ((Lib.decDigits n.natAbs++r).takeWhile sg):Int),(Lib.decDigits n.natAbs++r).dropWhile sg)=_;rw [c,d,b];congr 1;omega
 ·rename_i h;obtain⟨a,b,e⟩:=YK n.toNat
  obtain⟨c,d⟩:=aap a hr;rw [aBi,c,d,b]
  ·congr 1;omega
  ·intro t' ht;cases hq:Lib.decDigits n.toNat with
   |nil=>exact e hq
   |cons x l=>
    rw [hq]at ht a;injection ht with U _;have:=a x (ez ..);rw [U]at this;cases this
def Ul(c:UInt8):Bool:=sg c||c==45
def IZ(n:Int):∃c t,Lib.itoa n=c::t/\Ul c=true:=by
 unfold Lib.itoa;split
 ·exact⟨45,_,rfl,rfl⟩
 ·obtain⟨a,_,e⟩:=YK n.toNat
  cases hq:Lib.decDigits n.toNat with
  |nil=>exact absurd hq e
  |cons x l=>rw [hq]at a;exact⟨x,l,rfl,by unfold Ul;rw [a x (ez ..)];rfl⟩
end
end Go.Proofs.B.T
namespace Go.aj
def zP{p:Prop}(h:p:=by rw [a,b];rfl):p:=h
end Go.aj
namespace Go.Proofs.B.T
open Go Go.aj
section
variable{r:Tx}
def pV(k:Int):Tx:=
 [[],[43],[45],[42],[47],[114,101,109],[109,111,100],[61],[47,61],[60],[60,61],[62],[62,61],[97,110,100],[111,114],[120,111,114],[110,101,103],[97,98,115],[110,111,116]].getD k.toNat []
def vv(z:Int->Int)(o off:Int):Tx:=bif z o==1 then 111::Lib.itoa o else 111::(Lib.itoa o++46::Lib.itoa off)
def jg:List Tx->Tx
 | []=>[]
 | [x]=>x
 |x::y::l=>x++44::32::jg (y::l)
mutual
def bj(z:Int->Int):CE->Tx
 | .mk k p n o off len lo hi L=>
   if k=1 then Lib.itoa n
   else if k=2 then vv z o off
   else if k=3 then 111::(Lib.itoa o++91::(Lib.itoa off++58::(Lib.itoa len++32::((jQ z L).getD 0 []++[93]))))
   else if k=4 then 40::(pV p++32::((jQ z L).getD 0 []++[41]))
   else if k=5 then 40::((jQ z L).getD 0 []++32::(pV p++32::((jQ z L).getD 1 []++[41])))
   else if k=6 then 40::((jQ z L).getD 0 []++32::116::104::101::110::32::((jQ z L).getD 1 []++[41]))
   else if k=7 then 40::((jQ z L).getD 0 []++32::101::108::115::101::32::((jQ z L).getD 1 []++[41]))
   else if k=8 then 40::105::102::32::(jg (jQ z L)++[41])
   else if k=9 then 91::(Lib.itoa lo++46::46::(Lib.itoa hi++32::((jQ z L).getD 0 []++[93])))
   else if k=10 then 40::108::101::116::32::((jQ z L).getD 0 []++32::105::110::32::((jQ z L).getD 1 []++[41]))
   else if k=11 then 36::Lib.itoa n
   else if k=12 then 38::Lib.itoa o
   else if k=13 then 64::(jQ z L).getD 0 []
   else 35::Lib.itoa n
def jQ(z:Int->Int):List CE->List Tx
 | []=>[]
 |e::l=>bj z e::jQ z l
end
inductive WE(z:Int->Int):CE->Prop
 |num(n:Int):WE z (.mk 1 0 n 0 0 0 0 0 [])
 |slot(o off:Int)(h:z o=1->off=0):WE z (.mk 2 0 0 o off 0 0 0 [])
 |elem(o off len:Int)(a:CE)(ha:WE z a):WE z (.mk 3 0 0 o off len 0 0 [a])
 |un(p:Int)(a:CE)(hp:p=16∨p=17∨p=18)(ha:WE z a):WE z (.mk 4 p 0 0 0 0 0 0 [a])
 |bin(p:Int)(a b:CE)(hp:1<=p/\p<=15)(ha:WE z a)(hb:WE z b):WE z (.mk 5 p 0 0 0 0 0 0 [a,b])
 |Oz(a b:CE)(ha:WE z a)(hb:WE z b):WE z (.mk 6 0 0 0 0 0 0 0 [a,b])
 |els(a b:CE)(ha:WE z a)(hb:WE z b):WE z (.mk 7 0 0 0 0 0 0 0 [a,b])
 |ite(a b c:CE)(ha:WE z a)(hb:WE z b)(hc:WE z c):WE z (.mk 8 0 0 0 0 0 0 0 [a,b,c])
 |n7(lo hi:Int)(a:CE)(ha:WE z a):WE z (.mk 9 0 0 0 0 0 lo hi [a])
 |lt(a b:CE)(ha:WE z a)(hb:WE z b):WE z (.mk 10 0 0 0 0 0 0 0 [a,b])
 |loc(n:Int):WE z (.mk 11 0 n 0 0 0 0 0 [])
 |Ps(o:Int):WE z (.mk 12 0 0 o 0 0 0 0 [])
 |zr(a:CE)(ha:WE z a):WE z (.mk 13 0 0 0 0 0 0 0 [a])
 |Pp(n:Int):WE z (.mk 14 0 n 0 0 0 0 0 [])
def Sp(r:Tx):Prop:=r=[]∨∃c t,r=c::t/\(c=32∨c=41∨c=93∨c=44∨c=10)
def Sp.nd(h:Sp r):Nd r:=by
 rcases h with rfl|⟨c,t,rfl,h⟩
 ·exact aCK
 ·rcases h with rfl|rfl|rfl|rfl|rfl<;>exact im rfl
def mg{c:UInt8}{t:Tx}(h:c=32∨c=41∨c=93∨c=44∨c=10):Sp (c::t):= .inr ⟨c,t,rfl,h⟩
def B7(t:Tx):Tx×Tx:=(t.takeWhile (· != 32),(t.dropWhile (· != 32)).drop 1)
def aCx{w:Tx}(h:w.all (· != 32)=true):B7 (w++32::r)=(w,r):=by
 unfold B7;have:∀{w:Tx},w.all (· != 32)=true->(w++32::r).takeWhile (· != 32)=w/\(w++32::r).dropWhile (· != 32)=32::r:=by
  intro w
  induction w with
  |nil=>intro _;simp
  |cons c w ih=>
   intro h;simp only [Dg,bw]at h;obtain⟨a,b⟩:=ih h.2;simp only [hY,ZK,ZJ,h.1,lG];exact⟨by rw [a],b⟩
 obtain⟨a,b⟩:=this h;exact zP
def two(w:Tx)(a b:CE):CE:=
 if w=[116,104,101,110]then .mk 6 0 0 0 0 0 0 0 [a,b]
 else if w=[101,108,115,101]then .mk 7 0 0 0 0 0 0 0 [a,b]
 else .mk 5 (((List.range 16).find? λk=>pV (k:Nat)==w).getD 0:Nat) 0 0 0 0 0 0 [a,b]
def un1(w:Tx):Int:=if w=[110,101,103]then 16 else if w=[97,98,115]then 17 else 18
def fv(z:Int->Int):Nat->Tx->CE×Tx
 |0,t=>(.mk 0 0 0 0 0 0 0 0 [],t)
 |n+1,t=>
  match t with
  |111::t=>
   let o:=eK t
   match o.2 with
   |91::t=>
    let f:=eK t
    let l:=eK (f.2.drop 1)
    let a:=fv z n (l.2.drop 1)
    (.mk 3 0 0 o.1 f.1 l.1 0 0 [a.1],a.2.drop 1)
   |t=>if z o.1=1 then(.mk 2 0 0 o.1 0 0 0 0 [],t)else let f:=eK (t.drop 1);(.mk 2 0 0 o.1 f.1 0 0 0 [],f.2)
  |40::105::t=>
   let a:=fv z n (t.drop 2)
   let b:=fv z n (a.2.drop 2)
   let c:=fv z n (b.2.drop 2)
   (.mk 8 0 0 0 0 0 0 0 [a.1,b.1,c.1],c.2.drop 1)
  |40::108::t=>
   let a:=fv z n (t.drop 3)
   let b:=fv z n (a.2.drop 4)
   (.mk 10 0 0 0 0 0 0 0 [a.1,b.1],b.2.drop 1)
  |40::97::t=>let a:=fv z n (t.drop 3);(.mk 4 17 0 0 0 0 0 0 [a.1],a.2.drop 1)
  |40::110::t=>let a:=fv z n (t.drop 3);(.mk 4 (un1 (110::t.take 2)) 0 0 0 0 0 0 [a.1],a.2.drop 1)
  |40::t=>
   let a:=fv z n t
   let w:=B7 (a.2.drop 1)
   let b:=fv z n w.2
   (two w.1 a.1 b.1,b.2.drop 1)
  |91::t=>
   let l:=eK t
   let h:=eK (l.2.drop 2)
   let a:=fv z n (h.2.drop 1)
   (.mk 9 0 0 0 0 0 l.1 h.1 [a.1],a.2.drop 1)
  |36::t=>let o:=eK t;(.mk 11 0 o.1 0 0 0 0 0 [],o.2)
  |38::t=>let o:=eK t;(.mk 12 0 0 o.1 0 0 0 0 [],o.2)
  |64::t=>let a:=fv z n t;(.mk 13 0 0 0 0 0 0 0 [a.1],a.2)
  |35::t=>let o:=eK t;(.mk 14 0 o.1 0 0 0 0 0 [],o.2)
  |t=>let o:=eK t;(.mk 1 0 o.1 0 0 0 0 0 [],o.2)
end
end Go.Proofs.B.T
namespace Go.aj
def oN{p:Prop}(h:p:=by simp only [bj];exact⟨_,_,rfl,k _ rfl⟩):p:=h
def qD{p:Prop}(h:p:=by simp [bj,jQ]):p:=h
def amN{p:Prop}(h:p:=by
 have:p=1∨p=2∨p=3∨p=4∨p=5∨p=6∨p=7∨p=8∨p=9∨p=10∨p=11∨p=12∨p=13∨p=14∨p=15:=by omega
 rcases this with rfl|rfl|rfl|rfl|rfl|rfl|rfl|rfl|rfl|rfl|rfl|rfl|rfl|rfl|rfl<;>rfl):p:=h
def akH{p:Prop}(h:p:=by
 rw [fy];simp only [fv,hY,nO,lW,il,h4];rfl):p:=h
def akD{p:Prop}(h:p:=by rw [h3];intro u hu;injection hu with hu _;revert hu;decide):p:=h
def aaZ{p:Prop}(h:p:=by rintro rfl;revert h2;decide):p:=h
def aaV{p:Prop}(h:p:=by rw [e];simp only [fv,iR m hr.nd]):p:=h
def aj9{p:Prop}(h:p:=by simp only [bj,vv];cases z o==1<;>exact⟨_,_,rfl,k _ rfl⟩):p:=h
def SA{p:Prop}(h:p:=by simpa using hz):p:=h
def ajT{p:Prop}(h:p:=by simp only [hz,lI,lW,il,iR off hr.nd]):p:=h
def MW{p:Prop}(h:p:=by simp [bj]):p:=h
end Go.aj
namespace Go.aj
def lW:=@List.drop_succ_cons
def Zj:=@Bool.or_eq_false_iff
end Go.aj
namespace Go.Proofs.B.T
open Go Go.aj
section
variable {z:Int->Int}
variable{e:CE}{p:Int}{n:Nat}{r t:Tx}{c:UInt8}
def fc(c:UInt8):Prop:=c≠105/\c≠108/\c≠97/\c≠110/\c≠32/\c≠41
def alW(h:Ul c=true):fc c/\c≠111/\c≠40/\c≠91/\c≠36/\c≠38/\c≠64/\c≠35:=by
 refine⟨⟨?_,?_,?_,?_,?_,?_⟩,?_,?_,?_,?_,?_,?_,?_⟩<;>(rintro rfl;revert h;decide)
def TG(h:WE z e):∃c t,bj z e=c::t/\fc c:=by
 have k:∀c:UInt8,(c==105||c==108||c==97||c==110||c==32||c==41)=false->fc c:=λc h=>by
  simp only [Zj,C8]at h;exact⟨h.1.1.1.1.1,h.1.1.1.1.2,h.1.1.1.2,h.1.1.2,h.1.2,h.2⟩
 cases h with
 |num n=>obtain⟨c,t,U,h2⟩:=IZ n;exact⟨c,t,by rw [<-U];simp [bj],(alW h2).1⟩
 |slot o off h=>exact aj9
 |elem=>exact oN
 |un=>exact oN
 |bin=>exact oN
 |Oz=>exact oN
 |els=>exact oN
 |ite=>exact oN
 |n7=>exact oN
 |lt=>exact oN
 |loc=>exact oN
 |Ps=>exact oN
 |zr=>exact oN
 |Pp=>exact oN
def alX(h:WE z e):∃c t,bj z e=c::t/\c≠114/\c≠117:=by
 have k:∀c:UInt8,(c==114||c==117)=false->c≠114/\c≠117:=λc h=>by
  simpa only [Zj,C8]using h
 cases h with
 |num n=>obtain⟨c,t,U,h2⟩:=IZ n;exact⟨c,t,by rw [<-U];simp [bj],aaZ,aaZ⟩
 |slot o off h=>exact aj9
 |elem=>exact oN
 |un=>exact oN
 |bin=>exact oN
 |Oz=>exact oN
 |els=>exact oN
 |ite=>exact oN
 |n7=>exact oN
 |lt=>exact oN
 |loc=>exact oN
 |Ps=>exact oN
 |zr=>exact oN
 |Pp=>exact oN
def aBj(h:fc c):fv z (n+1) (40::c::t)=
 (two (B7 ((fv z n (c::t)).2.drop 1)).1 (fv z n (c::t)).1 (fv z n (B7 ((fv z n (c::t)).2.drop 1)).2).1,(fv z n (B7 ((fv z n (c::t)).2.drop 1)).2).2.drop 1):=by
 obtain⟨U,h2,h3,h4,_,_⟩:=h
 conv=>lhs;unfold fv
 split<;>rename_i hq<;>simp_all
def aBk(h:Ul c=true):fv z (n+1) (c::t)=(.mk 1 0 (eK (c::t)).1 0 0 0 0 0 [],(eK (c::t)).2):=by
 obtain⟨⟨U,h2,h3,h4,_,_⟩,h5,h6,h7,h8,h9,lR,pA⟩:=alW h
 conv=>lhs;unfold fv
 split<;>rename_i hq<;>simp_all
def ahY(h:∀u,(eK t).2 ≠91::u):fv z (n+1) (111::t)=
 if z (eK t).1 =1 then(.mk 2 0 0 (eK t).1 0 0 0 0 [],(eK t).2)else(.mk 2 0 0 (eK t).1 (eK ((eK t).2.drop 1)).1 0 0 0 [],(eK ((eK t).2.drop 1)).2):=by
 conv=>lhs;unfold fv
 simp only
def amn(h:Sp r)(u:Tx):r≠91::u:=by
 rintro rfl;rcases h with h|⟨c,t,h,h2⟩
 ·exact aD
 ·injection h with U _;subst U;revert h2;decide
def aBb(hp:1<=p/\p<=15)(a b:CE):two (pV p) a b= .mk 5 p 0 0 0 0 0 0 [a,b]:=amN
def aCG(hp:1<=p/\p<=15):(pV p).all (· != 32)=true:=amN
def aav{w:Tx}(hw:w.all (· != 32)=true){a b:CE}{ta tb:Tx}(hf:∃c t,ta=c::t/\fc c)
 (ha:∀r,Sp r->fv z n (ta++r)=(a,r)) (hb:∀r,Sp r->fv z n (tb++r)=(b,r)):fv z (n+1) (40::(ta++32::(w++32::(tb++41::r))))=(two w a b,r):=by
 have U:=ha (32::(w++32::(tb++41::r))) (mg (.inl rfl));have h2:=hb (41::r) (mg (.inr (.inl rfl)));obtain⟨c,t,rfl,hc⟩:=hf;rw [hY]at U⊢;rw [aBj hc,U];simp only [lW,il,aCx hw,h2]
def wJ:∀{e:CE},WE z e->∃B,∀n,B<=n->∀r,Sp r->fv z n (bj z e++r)=(e,r):=by
 intro e h
 induction h with
 |num m=>
  refine⟨1,λn hn r hr=> ?_⟩;obtain⟨n,rfl⟩:∃k,n=k+1:=⟨n- 1,by omega⟩;have e:bj z (.mk 1 0 m 0 0 0 0 0 [])=Lib.itoa m:=MW;obtain⟨c,t,U,h2⟩:=IZ m;have h3:=iR m hr.nd;rw [e];rw [U,hY]at h3⊢;rw [aBk h2,h3]
 |slot o off h=>
  refine⟨1,λn hn r hr=> ?_⟩;obtain⟨n,rfl⟩:∃k,n=k+1:=⟨n- 1,by omega⟩;have e:bj z (.mk 2 0 0 o off 0 0 0 [])=vv z o off:=MW;rw [e];unfold vv;cases hz:z o==1 with
  |true=>
   have hz:z o=1:=SA;have h3:=iR o hr.nd;rw [bU,hY,ahY (by rw [h3];exact amn hr),h3];simp only [hz,lG,h hz]
  |false=>
   have hz:¬z o=1:=SA;have h3:eK (Lib.itoa o++46::(Lib.itoa off++r))=(o,46::(Lib.itoa off++r)):=iR o (im rfl);rw [cf,hY,fy,hY,ahY (akD),h3];exact ajT
 |elem o off len a ha ih=>
  obtain⟨B,ih⟩:=ih;refine⟨B+1,λn hn r hr=> ?_⟩;obtain⟨n,rfl⟩:∃k,n=k+1:=⟨n- 1,by omega⟩;have h4:=ih n (by omega) (93::r) (mg (by simp));simp only [bj,jQ,IK,fy,hY,nO];simp only [show(3:Int)=1 ↔ False by decide,show(3:Int)=2 ↔ False by decide,lI,lG,fy,hY,nO]
  conv=>lhs;unfold fv
  simp only [iR o (im (c:=91) rfl),iR off (im (c:=58) rfl),iR len (im (c:=32) rfl),lW,il,h4]
 |un p a hp ha ih=>
  obtain⟨B,ih⟩:=ih;refine⟨B+1,λn hn r hr=> ?_⟩;obtain⟨n,rfl⟩:∃k,n=k+1:=⟨n- 1,by omega⟩;have h4:=ih n (by omega) (41::r) (mg (by simp));have e:bj z (.mk 4 p 0 0 0 0 0 0 [a])=40::(pV p++32::(bj z a++[41])):=qD;rw [e];rcases hp with rfl|rfl|rfl
  ·show fv z (n+1) (40::110::101::103::32::((bj z a++[41])++r))=_;exact akH
  ·show fv z (n+1) (40::97::98::115::32::((bj z a++[41])++r))=_;rw [fy];simp only [fv,hY,nO,lW,il,h4]
  ·show fv z (n+1) (40::110::111::116::32::((bj z a++[41])++r))=_;exact akH
 |bin p a b hp ha hb jC kY=>
  obtain⟨B,jC⟩:=jC;obtain⟨C,kY⟩:=kY;refine⟨B+C+1,λn hn r hr=> ?_⟩;obtain⟨n,rfl⟩:∃k,n=k+1:=⟨n- 1,by omega⟩;have e:bj z (.mk 5 p 0 0 0 0 0 0 [a,b])=40::(bj z a++32::(pV p++32::(bj z b++[41]))):=qD;rw [e,<-aBb hp a b];have:=aav (r:=r) (aCG hp) (TG ha) (jC n (by omega)) (kY n (by omega));exact sI
 |Oz a b ha hb jC kY=>
  obtain⟨B,jC⟩:=jC;obtain⟨C,kY⟩:=kY;refine⟨B+C+1,λn hn r hr=> ?_⟩;obtain⟨n,rfl⟩:∃k,n=k+1:=⟨n- 1,by omega⟩;have e:bj z (.mk 6 0 0 0 0 0 0 0 [a,b])=40::(bj z a++32::([116,104,101,110]++32::(bj z b++[41]))):=qD;rw [e];have:=aav (w:=[116,104,101,110]) (r:=r) rfl (TG ha) (jC n (by omega)) (kY n (by omega));simpa [two]using this
 |els a b ha hb jC kY=>
  obtain⟨B,jC⟩:=jC;obtain⟨C,kY⟩:=kY;refine⟨B+C+1,λn hn r hr=> ?_⟩;obtain⟨n,rfl⟩:∃k,n=k+1:=⟨n- 1,by omega⟩;have e:bj z (.mk 7 0 0 0 0 0 0 0 [a,b])=40::(bj z a++32::([101,108,115,101]++32::(bj z b++[41]))):=qD;rw [e];have:=aav (w:=[101,108,115,101]) (r:=r) rfl (TG ha) (jC n (by omega)) (kY n (by omega));simpa [two]using this
 |ite a b c ha hb hc jC kY Hn=>
  obtain⟨B,jC⟩:=jC;obtain⟨C,kY⟩:=kY;obtain⟨D,Hn⟩:=Hn;refine⟨B+C+D+1,λn hn r hr=> ?_⟩;obtain⟨n,rfl⟩:∃k,n=k+1:=⟨n- 1,by omega⟩;have U:=jC n (by omega) (44::32::(bj z b++44::32::(bj z c++41::r))) (mg (by simp));have h2:=kY n (by omega) (44::32::(bj z c++41::r)) (mg (by simp));have h3:=Hn n (by omega) (41::r) (mg (by simp));have e:bj z (.mk 8 0 0 0 0 0 0 0 [a,b,c])++r=40::105::102::32::(bj z a++44::32::(bj z b++44::32::(bj z c++41::r))):=by simp [bj,jQ,jg]
  rw [e];simp only [fv,lW,il,U,h2,h3]
 |n7 lo hi a ha ih=>
  obtain⟨B,ih⟩:=ih;refine⟨B+1,λn hn r hr=> ?_⟩;obtain⟨n,rfl⟩:∃k,n=k+1:=⟨n- 1,by omega⟩;have h4:=ih n (by omega) (93::r) (mg (by simp));have e:bj z (.mk 9 0 0 0 0 0 lo hi [a])++r=91::(Lib.itoa lo++46::46::(Lib.itoa hi++32::(bj z a++93::r))):=qD;rw [e];simp only [fv,iR lo (im (c:=46) rfl),iR hi (im (c:=32) rfl),lW,il,h4]
 |lt a b ha hb jC kY=>
  obtain⟨B,jC⟩:=jC;obtain⟨C,kY⟩:=kY;refine⟨B+C+1,λn hn r hr=> ?_⟩;obtain⟨n,rfl⟩:∃k,n=k+1:=⟨n- 1,by omega⟩;have U:=jC n (by omega) (32::105::110::32::(bj z b++41::r)) (mg (by simp));have h2:=kY n (by omega) (41::r) (mg (by simp));have e:bj z (.mk 10 0 0 0 0 0 0 0 [a,b])++r=40::108::101::116::32::(bj z a++32::105::110::32::(bj z b++41::r)):=qD;rw [e];simp only [fv,lW,il,U,h2]
 |loc m=>
  refine⟨1,λn hn r hr=> ?_⟩;obtain⟨n,rfl⟩:∃k,n=k+1:=⟨n- 1,by omega⟩;have e:bj z (.mk 11 0 m 0 0 0 0 0 [])++r=36::(Lib.itoa m++r):=MW;exact aaV
 |Ps m=>
  refine⟨1,λn hn r hr=> ?_⟩;obtain⟨n,rfl⟩:∃k,n=k+1:=⟨n- 1,by omega⟩;have e:bj z (.mk 12 0 0 m 0 0 0 0 [])++r=38::(Lib.itoa m++r):=MW;exact aaV
 |zr a ha ih=>
  obtain⟨B,ih⟩:=ih;refine⟨B+1,λn hn r hr=> ?_⟩;obtain⟨n,rfl⟩:∃k,n=k+1:=⟨n- 1,by omega⟩;have e:bj z (.mk 13 0 0 0 0 0 0 0 [a])++r=64::(bj z a++r):=qD;rw [e];simp only [fv,ih n (by omega) r hr]
 |Pp m=>
  refine⟨1,λn hn r hr=> ?_⟩;obtain⟨n,rfl⟩:∃k,n=k+1:=⟨n- 1,by omega⟩;have e:bj z (.mk 14 0 m 0 0 0 0 0 [])++r=35::(Lib.itoa m++r):=MW;exact aaV
end
def fS(z:Int->Int)(p:PL):Tx:=
 if p.kind=1 then vv z p.O p.off
 else if p.kind=2 then 111::(Lib.itoa p.O++91::(Lib.itoa p.off++58::(Lib.itoa p.len++32::((jQ z p.E).getD 0 []++[93]))))
 else 64::(jQ z p.E).getD 0 []
def dL:bQ->Tx
 | []=>[]
 |n::l=>32::(Lib.itoa n++dL l)
def rJ(z:Int->Int)(f:dU):Tx:=(jQ z f.E).getD 0 []
def y5(z:Int->Int)(f:dU):Tx:=(f.To.map (fS z)).getD 0 []
def nC(z:Int->Int)(f:dU):Tx:=
 if f.mode=1 then [32,101,108,115,101]else if f.mode=2 then 32::111::114::32::rJ z f else if f.mode=3 then 32::117::110::116::105::108::32::rJ z f else []
def ck(z:Int->Int)(f:dU):Tx:=
 if f.kind=1 then [110,117,108,108]
 else if f.kind=2 then y5 z f++32::58::61::32::rJ z f
 else if f.kind=3 then [115,101,113]
 else if f.kind=4 then 105::102::32::rJ z f
 else if f.kind=5 then 119::104::105::108::101::32::rJ z f
 else if f.kind=6 then 102::111::114::32::111::(Lib.itoa f.O++32::105::110::32::((bif f.rev then [114,101,118,101,114,115,101,32]else [])++(rJ z f++32::46::46::32::(jQ z f.E).getD 1 [])))
 else if f.kind=7 then 109::97::114::107::32::Lib.itoa f.N
 else if f.kind=8 then 108::101::97::118::101::32::Lib.itoa f.N
 else if f.kind=9 then 115::99::111::112::101::(bif f.Ts.isEmpty then []else 32::116::97::115::107::115::dL f.Ts)
 else if f.kind=10 then 114::97::105::115::101::(bif decide (0<f.N)then 32::Lib.itoa f.N else [])
 else if f.kind=11 then 112::117::116::32::rJ z f
 else if f.kind=12 then 103::101::116::32::y5 z f
 else if f.kind=13 then 99::108::111::99::107::32::y5 z f
 else if f.kind=14 then 99::111::117::110::116::32::(y5 z f++32::(Lib.itoa f.entry++(bif f.In then 32::111::102::32::Lib.itoa f.P else [])))
 else if f.kind=15 then 100::101::108::97::121::32::((bif f.lu then [117,110,116,105,108,32]else [])++rJ z f)
 else if f.kind=16 then 99::97::108::108::32::(Lib.itoa f.T++46::(Lib.itoa f.entry++32::40::(jg (jQ z f.Ins)++32::45::62::32::(jg (f.fE.map (fS z))++41::nC z f))))
 else if f.kind=17 then 112::101::110::116::114::121::32::(Lib.itoa f.P++46::(Lib.itoa f.entry++nC z f))
 else if f.kind=18 then 97::99::99::101::112::116::32::Lib.itoa f.entry
 else if f.kind=19 then 115::101::108::101::99::116::(bif f.els then [32,101,108,115,101]else [])
 else if f.kind=20 then 108::111::99::107::101::100::32::Lib.itoa f.P
 else if f.kind=21 then 114::101::113::117::101::117::101::32::(Lib.itoa f.T++46::(Lib.itoa f.entry++(bif f.jT then [32,97,98,111,114,116]else [])))
 else 97::98::111::114::116::dL f.Ts
def ind(k:Nat):Tx:=List.replicate (2*k) 32
def rK(z:Int->Int)(k:Int)(n:Int)(E:List CE):Tx:=
 if k=1 then 32::97::99::99::101::112::116::32::Lib.itoa n else if k=2 then 32::100::101::108::97::121::32::(jQ z E).getD 0 []else if k=3 then 32::117::110::116::105::108::32::(jQ z E).getD 0 []else [32,116,101,114,109,105,110,97,116,101]
mutual
def cM(z:Int->Int)(k:Nat):CS->Tx
 | .mk f L D H A=>
   ind k++(ck z f++10::
    (if f.kind=9 then qt z k D++(ind (k+1)++98::101::103::105::110::10::((qF z (k+2) L).getD 0 []++uK z k H))
    else if f.kind=19 then nu z k A++(bif f.els then(qF z (k+1) L).flatten else [])
    else if f.mode=0/\f.kind=16 then []
    else if f.mode=0/\f.kind=17 then((qF z (k+1) L).take 1).flatten
    else(qF z (k+1) L).flatten))
def qF(z:Int->Int)(k:Nat):List CS->List Tx
 | []=>[]
 |s::l=>cM z k s::qF z k l
def lA:CS->Int
 | .mk f _ _ _ _=>f.kind
def qt(z:Int->Int)(k:Nat):List CD->Tx
 | []=>[]
 | .mk d u::l=>ind (k+1)++100::111::10::(cM z (k+2) d++((if lA u=1 then []else ind (k+1)++117::110::100::111::10::cM z (k+2) u)++qt z k l))
def uK(z:Int->Int)(k:Nat):List CH->Tx
 | []=>[]
 | .mk x s::l=>ind (k+1)++119::104::101::110::((bif x.isEmpty then [32,111,116,104,101,114,115]else dL x)++10::(cM z (k+2) s++uK z k l))
def nu(z:Int->Int)(k:Nat):List CA->Tx
 | []=>[]
 | .mk q g n E b a::l=>ind (k+1)++111::114::32::(bj z g++(rK z q n E++10::((if q=1 then cM z (k+2) b else [])++((if q=4 then []else cM z (k+2) a)++nu z k l))))
end
inductive WP(z:Int->Int):PL->Prop
 |slot(o off:Int)(h:z o=1->off=0):WP z ⟨1,o,off,0,[]⟩
 |elem(o off len:Int)(a:CE)(ha:WE z a):WP z ⟨2,o,off,len,[a]⟩
 |zr(a:CE)(ha:WE z a):WP z ⟨3,0,0,0,[a]⟩
abbrev fl(k:Int):dU:=⟨k,0,0,0,0,0,false,false,false,false,false,0,[],[],[],[],[]⟩
abbrev jB:CS:= .mk (fl 1) [] [] [] []
abbrev sm(f:dU)(L:List CS):CS:= .mk f L [] [] []
inductive WM(z:Int->Int):Int->List CE->Prop
 |smp:WM z 0 []
 |els:WM z 1 []
 |tmd(e:CE)(h:WE z e):WM z 2 [e]
 |unt(e:CE)(h:WE z e):WM z 3 [e]
inductive WS(z:Int->Int):CS->Prop
 |null:WS z jB
 |set(p:PL)(e:CE)(hp:WP z p)(he:WE z e):WS z (sm {fl 2 with To:=[p],E:=[e]} [])
 |seq(L:List CS)(h:∀s∈L,WS z s):WS z (sm (fl 3) L)
 |ite(e:CE)(a b:CS)(he:WE z e)(ha:WS z a)(hb:WS z b):WS z (sm {fl 4 with E:=[e]} [a,b])
 |Kj(e:CE)(a:CS)(he:WE z e)(ha:WS z a):WS z (sm {fl 5 with E:=[e]} [a])
 |fr(o:Int)(rev:Bool)(e d:CE)(a:CS)(he:WE z e)(hd:WE z d)(ha:WS z a):WS z (sm {fl 6 with O:=o,rev:=rev,E:=[e,d]} [a])
 |mark(n:Int)(a:CS)(ha:WS z a):WS z (sm {fl 7 with N:=n} [a])
 |leave(n:Int):WS z (sm {fl 8 with N:=n} [])
 |scope(Ts:bQ)(a:CS)(D:List CD)(H:List CH)(ha:WS z a)(hD:∀d∈D,WS z d.d)(hU:∀d∈D,WS z d.u)(hH:∀h∈H,WS z h.body):WS z (.mk {fl 9 with Ts:=Ts} [a] D H [])
 |raise(n:Int)(h:0<=n):WS z (sm {fl 10 with N:=n} [])
 |put(e:CE)(he:WE z e):WS z (sm {fl 11 with E:=[e]} [])
 |get(p:PL)(hp:WP z p):WS z (sm {fl 12 with To:=[p]} [])
 |clock(p:PL)(hp:WP z p):WS z (sm {fl 13 with To:=[p]} [])
 |count(p:PL)(n q:Int)(b:Bool)(hp:WP z p)(h:b=false->q=0):WS z (sm {fl 14 with To:=[p],entry:=n,In:=b,P:=q} [])
 |NG(e:CE)(b:Bool)(he:WE z e):WS z (sm {fl 15 with lu:=b,E:=[e]} [])
 |call(t n m:Int)(E I:List CE)(O:List PL)(a b:CS)(hm:WM z m E)(hI:∀e∈I,WE z e)(hO:∀p∈O,WP z p)(h0:m=0->a=jB/\b=jB)(ha:WS z a)(hb:WS z b):
   WS z (sm {fl 16 with T:=t,entry:=n,mode:=m,E:=E,Ins:=I,fE:=O} [a,b])
 |GF(q n m:Int)(E:List CE)(a b c:CS)(hm:WM z m E)(h0:m=0->b=jB/\c=jB)(ha:WS z a)(hb:WS z b)(hc:WS z c):WS z (sm {fl 17 with P:=q,entry:=n,mode:=m,E:=E} [a,b,c])
 |acc(n:Int)(a b:CS)(ha:WS z a)(hb:WS z b):WS z (sm {fl 18 with entry:=n} [a,b])
 |bC(b:Bool)(a:CS)(A:List CA)(h0:b=false->a=jB)(ha:WS z a)(hb:∀x∈A,WS z x.body)(hc:∀x∈A,WS z x.after)
   (hA:∀x∈A,WE z x.guard/\((∃n,x= .mk 1 x.guard n [] x.body x.after)∨(∃q e,(q=2∨q=3)/\WE z e/\x= .mk q x.guard 0 [e] jB x.after)∨x= .mk 4 x.guard 0 [] jB jB)):WS z (.mk {fl 19 with els:=b} [a] [] [] A)
 |lock(q:Int)(a:CS)(ha:WS z a):WS z (sm {fl 20 with P:=q} [a])
 |B6(t n:Int)(b:Bool):WS z (sm {fl 21 with T:=t,entry:=n,jT:=b} [])
 |jT(Ts:bQ):WS z (sm {fl 22 with Ts:=Ts} [])
end Go.Proofs.B.T
namespace Go.aj
def akz{p:Prop}(h:p:=by rw [e1];simp only [OE,lW,il,ih n hn (10::r) (mg (by simp))]):p:=h
def SD{p:Prop}(h:p:=by simp [fS,jQ]):p:=h
end Go.aj
namespace Go.aj
def vk:=@List.head?_cons
end Go.aj
namespace Go.Proofs.B.T
open Go Go.aj
section
variable {z:Int->Int}
variable{m:Int}{E:List CE}{p:PL}{r:Tx}
def zb(c:UInt8):Bool:=decide (97<=c.toNat)&&decide (c.toNat<=122)
def UU(t:Tx):Tx×Tx:=(t.takeWhile zb,t.dropWhile zb)
def ajl:∀{w:Tx} {c:UInt8} {r:Tx},w.all zb=true->zb c=false->UU (w++c::r)=(w,c::r)
 | [],c,r,_,hc=>by simp [UU,hc]
 |x::w,c,r,h,hc=>by
  simp only [Dg,bw]at h;have ih:=ajl (r:=r) h.2 hc;unfold UU at ih⊢;injection ih with i1 i2;simp only [hY,ZK,ZJ,h.1,lG,i1,i2]
def xa(z:Int->Int)(n:Nat)(t:Tx):PL×Tx:=
 match t with
 |111::t=>
  let o:=eK t
  match o.2 with
  |91::t=>
   let f:=eK t
   let l:=eK (f.2.drop 1)
   let a:=fv z n (l.2.drop 1)
   (⟨2,o.1,f.1,l.1,[a.1]⟩,a.2.drop 1)
  |t=>if z o.1=1 then(⟨1,o.1,0,0,[]⟩,t)else let f:=eK (t.drop 1);(⟨1,o.1,f.1,0,[]⟩,f.2)
 |t=>let a:=fv z n (t.drop 1);(⟨3,0,0,0,[a.1]⟩,a.2)
def ahX{n:Nat}{t:Tx}(h:∀u,(eK t).2 ≠91::u):xa z n (111::t)=
 if z (eK t).1 =1 then(⟨1,(eK t).1,0,0,[]⟩,(eK t).2)else(⟨1,(eK t).1,(eK ((eK t).2.drop 1)).1,0,[]⟩,(eK ((eK t).2.drop 1)).2):=by
 conv=>lhs;unfold xa
 simp only
def amt(h:WP z p):∃c t,fS z p=c::t/\(c=111∨c=64):=by
 cases h with
 |slot o off h=>simp only [fS,vv];cases z o==1<;>exact⟨_,_,rfl,.inl rfl⟩
 |elem=>simp only [fS];exact⟨_,_,rfl,.inl rfl⟩
 |zr=>simp only [fS];exact⟨_,_,rfl,.inr rfl⟩
def Sv(h:WP z p):∃B,∀n,B<=n->∀r,Sp r->xa z n (fS z p++r)=(p,r):=by
 cases h with
 |slot o off h=>
  refine⟨0,λn _ r hr=> ?_⟩;have e:fS z ⟨1,o,off,0,[]⟩=vv z o off:=by simp [fS]
  rw [e];unfold vv;cases hz:z o==1 with
  |true=>
   have hz:z o=1:=SA;have h3:=iR o hr.nd;rw [bU,hY,ahX (by rw [h3];exact amn hr),h3];simp only [hz,lG,h hz]
  |false=>
   have hz:¬z o=1:=SA;have h3:eK (Lib.itoa o++46::(Lib.itoa off++r))=(o,46::(Lib.itoa off++r)):=iR o (im rfl);rw [cf,hY,fy,hY,ahX (akD),h3];exact ajT
 |elem o off len a ha=>
  obtain⟨B,ih⟩:=wJ ha;refine⟨B,λn hn r hr=> ?_⟩;have h4:=ih n hn (93::r) (mg (by simp));have e:fS z ⟨2,o,off,len,[a]⟩++r=111::(Lib.itoa o++91::(Lib.itoa off++58::(Lib.itoa len++32::(bj z a++93::r)))):=SD;rw [e];simp only [xa,iR o (im (c:=91) rfl),iR off (im (c:=58) rfl),iR len (im (c:=32) rfl),lW,il,h4]
 |zr a ha=>
  obtain⟨B,ih⟩:=wJ ha;refine⟨B,λn hn r hr=> ?_⟩;have e:fS z ⟨3,0,0,0,[a]⟩++r=64::(bj z a++r):=SD;rw [e,show xa z n (64::(bj z a++r))=(⟨3,0,0,0,[(fv z n (bj z a++r)).1]⟩,(fv z n (bj z a++r)).2)from rfl,ih n hn r hr]
def aDx{st:UInt8}(h:Sp [st])(r:Tx):Sp (st::r):=by
 rcases h with h|⟨c,t,e,h⟩
 ·exact aD
 ·injection e with e _;subst e;exact mg h
def G0{α:Type}(rd:Tx->α×Tx)(st:UInt8):Nat->Tx->List α×Tx
 |0,t=>([],t)
 |n+1,t=>
  if t.head?=some st then([],t)
  else
   let a:=rd t
   if a.2.head?=some 44 then let r:=G0 rd st n (a.2.drop 2);(a.1::r.1,r.2)else([a.1],a.2)
def aaw{α:Type}{rd:Tx->α×Tx}{st:UInt8}(eR:st≠44)(hs:Sp [st]){tx:α->Tx}{r:Tx}:∀{l:List α},(∀x∈l,(∃c t,tx x=c::t/\c≠st)/\∀r,Sp r->rd (tx x++r)=(x,r))->∀n,l.length<n->G0 rd st n (jg (l.map tx)++st::r)=(l,st::r)
 | [],_,n+1,_=>by simp [G0,jg]
 | [x],h,n+1,_=>by
   obtain⟨⟨c,t,e,hc⟩,hr⟩:=h x (by simp);have hr:=hr (st::r) (aDx hs r);have hj:jg ([x].map tx)++st::r=tx x++st::r:=by simp [jg]
   rw [hj];unfold G0;rw [if_neg (by rw [e];simpa using hc),hr];simp [eR]
 |x::y::l,h,n+1,hn=>by
  obtain⟨⟨c,t,e,hc⟩,hr⟩:=h x (by simp);have ih:=aaw eR hs (r:=r) (l:=y::l) (λx hx=>h x (fJ _ hx)) n (by simp at hn⊢;omega);have hr:=hr (44::32::(jg ((y::l).map tx)++st::r)) (mg (by simp));have hj:jg ((x::y::l).map tx)++st::r=tx x++44::32::(jg ((y::l).map tx)++st::r):=by simp [jg]
  rw [hj];unfold G0;rw [if_neg (by rw [e];simpa using hc),hr];simp only [vk,lG,lW,il,ih]
def yZ:Nat->Tx->bQ×Tx
 |0,t=>([],t)
 |n+1,t=>
  match t with
  |32::t=>let a:=eK t;let r:=yZ n a.2;(a.1::r.1,r.2)
  |t=>([],t)
def abl(l:bQ)(hr:Nd r):Nd (dL l++r):=by
 cases l with
 |nil=>exact hr
 |cons=>exact im rfl
def Dk{r:Tx}(hr:Nd r)(h32:∀t,r≠32::t):∀{l:bQ} (n:Nat),l.length<n->yZ n (dL l++r)=(l,r)
 | [],n+1,_=>by
   show yZ (n+1) r=_;unfold yZ;split
   ·rename_i t;exact absurd rfl (h32 t)
   ·rfl
 |x::l,n+1,hn=>by
  have ih:=Dk hr h32 (l:=l) n (by simp at hn;omega);have e:dL (x::l)++r=32::(Lib.itoa x++(dL l++r)):=by simp [dL]
  rw [e];simp only [yZ,iR x (abl l hr),ih]
def OE(z:Int->Int)(n:Nat)(t:Tx):Int×List CE×Tx:=
 match t with
 |32::101::t=>(1,[],t.drop 3)
 |32::111::t=>let e:=fv z n (t.drop 2);(2,[e.1],e.2)
 |32::117::t=>let e:=fv z n (t.drop 5);(3,[e.1],e.2)
 |t=>(0,[],t)
def ajk(h:WM z m E):∃B,∀n,B<=n->∀r,OE z n (nC z {fl 16 with mode:=m,E:=E}++10::r)=(m,E,10::r):=by
 cases h with
 |smp=>exact⟨0,λn _ r=>rfl⟩
 |els=>exact⟨0,λn _ r=>rfl⟩
 |tmd e h=>
  obtain⟨B,ih⟩:=wJ h;refine⟨B,λn hn r=> ?_⟩;have e1:nC z {fl 16 with mode:=2,E:=[e]}++10::r=32::111::114::32::(bj z e++10::r):=by simp [nC,rJ,jQ]
  exact akz
 |unt e h=>
  obtain⟨B,ih⟩:=wJ h;refine⟨B,λn hn r=> ?_⟩;have e1:nC z {fl 16 with mode:=3,E:=[e]}++10::r=32::117::110::116::105::108::32::(bj z e++10::r):=by simp [nC,rJ,jQ]
  exact akz
def aju(z:Int->Int){f g:dU}(U:f.mode=g.mode)(h2:f.E=g.E):nC z f=nC z g:=by unfold nC rJ;rw [U,h2]
def aD8(h:WM z m E):Nd (nC z {fl 16 with mode:=m,E:=E}++10::r):=by
 cases h<;>exact im rfl
def wds:List Tx:=[[],[110,117,108,108],[115,101,116],[115,101,113],[105,102],[119,104,105,108,101],[102,111,114],[109,97,114,107],[108,101,97,118,101],[115,99,111,112,101],[114,97,105,115,101],[112,117,116],[103,101,116],[99,108,111,99,107],[99,111,117,110,116],[100,101,108,97,121],[99,97,108,108],[112,101,110,116,114,121],[97,99,99,101,112,116],[115,101,108,101,99,116],[108,111,99,107,101,100],[114,101,113,117,101,117,101],[97,98,111,114,116]]
def kd(w:Tx):Nat:=wds.findIdx (·==w)
def dZ(t:Tx)(c:UInt8):Bool:=t.head?==some c
def jZ(z:Int->Int)(n:Nat)(k:Nat)(r:Tx):dU×Tx:=
 if k=4 then let e:=fv z n (r.drop 1);({fl 4 with E:=[e.1]},e.2.drop 1)
 else if k=5 then let e:=fv z n (r.drop 1);({fl 5 with E:=[e.1]},e.2.drop 1)
 else if k=6 then
  let o:=eK (r.drop 2)
  let t:=o.2.drop 4
  let rv:=dZ t 114
  let e:=fv z n (bif rv then t.drop 8 else t)
  let d:=fv z n (e.2.drop 4)
  ({fl 6 with O:=o.1,rev:=rv,E:=[e.1,d.1]},d.2.drop 1)
 else if k=7 then let m:=eK (r.drop 1);({fl 7 with N:=m.1},m.2.drop 1)
 else if k=8 then let m:=eK (r.drop 1);({fl 8 with N:=m.1},m.2.drop 1)
 else if k=9 then let l:=yZ n (bif dZ r 32 then r.drop 6 else r);({fl 9 with Ts:=l.1},l.2.drop 1)
 else if k=10 then bif dZ r 32 then let m:=eK (r.drop 1);({fl 10 with N:=m.1},m.2.drop 1)else(fl 10,r.drop 1)
 else if k=11 then let e:=fv z n (r.drop 1);({fl 11 with E:=[e.1]},e.2.drop 1)
 else if k=12 then let p:=xa z n (r.drop 1);({fl 12 with To:=[p.1]},p.2.drop 1)
 else if k=13 then let p:=xa z n (r.drop 1);({fl 13 with To:=[p.1]},p.2.drop 1)
 else if k=14 then
  let p:=xa z n (r.drop 1)
  let m:=eK (p.2.drop 1)
  bif dZ m.2 32 then let q:=eK (m.2.drop 4);({fl 14 with To:=[p.1],entry:=m.1,In:=true,P:=q.1},q.2.drop 1)
  else({fl 14 with To:=[p.1],entry:=m.1},m.2.drop 1)
 else if k=15 then
  let t:=r.drop 1
  let u:=dZ t 117
  let e:=fv z n (bif u then t.drop 6 else t)
  ({fl 15 with lu:=u,E:=[e.1]},e.2.drop 1)
 else if k=16 then
  let t:=eK (r.drop 1)
  let m:=eK (t.2.drop 1)
  let I:=G0 (fv z n) 32 n (m.2.drop 2)
  let O:=G0 (xa z n) 41 n (I.2.drop 4)
  let w:=OE z n (O.2.drop 1)
  ({fl 16 with T:=t.1,entry:=m.1,mode:=w.1,E:=w.2.1,Ins:=I.1,fE:=O.1},w.2.2.drop 1)
 else if k=17 then
  let t:=eK (r.drop 1)
  let m:=eK (t.2.drop 1)
  let w:=OE z n m.2
  ({fl 17 with P:=t.1,entry:=m.1,mode:=w.1,E:=w.2.1},w.2.2.drop 1)
 else if k=18 then let m:=eK (r.drop 1);({fl 18 with entry:=m.1},m.2.drop 1)
 else if k=19 then bif dZ r 32 then({fl 19 with els:=true},r.drop 6)else(fl 19,r.drop 1)
 else if k=20 then let m:=eK (r.drop 1);({fl 20 with P:=m.1},m.2.drop 1)
 else if k=21 then
  let t:=eK (r.drop 1)
  let m:=eK (t.2.drop 1)
  bif dZ m.2 32 then({fl 21 with T:=t.1,entry:=m.1,jT:=true},m.2.drop 7)else({fl 21 with T:=t.1,entry:=m.1},m.2.drop 1)
 else if k=22 then let l:=yZ n r;({fl 22 with Ts:=l.1},l.2.drop 1)
 else(fl (k:Int),r.drop 1)
def NV(z:Int->Int)(n:Nat)(t:Tx):dU×Tx:=
 bif dZ t 111||dZ t 64 then
  let p:=xa z n t
  let e:=fv z n (p.2.drop 4)
  ({fl 2 with To:=[p.1],E:=[e.1]},e.2.drop 1)
 else let w:=UU t;jZ z n (kd w.1) w.2
end
end Go.Proofs.B.T
namespace Go.aj
def vt{p:Prop}(h:p:=by simp [ck]):p:=h
def FT{p:Prop}(h:p:=by simp [ck,rJ,jQ]):p:=h
def yD{p:Prop}(h:p:=by simp [jZ]):p:=h
def akU{p:Prop}(h:p:=by
 rw [e1,qx n _ rfl rfl rfl (by simp)];show jZ z n 19 _=_;simp [jZ,dZ]):p:=h
def SC{p:Prop}(h:p:=by simp [ck,y5]):p:=h
end Go.aj
namespace Go.Proofs.B.T
open Go Go.aj
section
variable {z:Int->Int}
variable{b:Bool}{e:CE}{f:dU}{k m q t:Int}{E:List CE}{p:PL}{w:Tx}
def tA{α:Type}{P:Nat->α->Prop}:∀{l:List α},(∀x∈l,∃B,∀n,B<=n->P n x)->∃B,∀n,B<=n->∀x∈l,P n x
 | [],_=>⟨0,λ_ _ x h=>aD⟩
 |a::l,h=>by
  obtain⟨B,hB⟩:=h a (ez ..);obtain⟨C,hC⟩:=tA (l:=l) λx hx=>h x (fJ _ hx);refine⟨B+C,λn hn x hx=> ?_⟩;rcases fV.1 hx with rfl|hx
  ·exact hB n (by omega)
  ·exact hC n (by omega) x hx
def qx(n:Nat){c:UInt8}(X:Tx)(hw:w.all zb=true)(hc:zb c=false)(h0:(dZ w 111||dZ w 64)=false)(U:w≠ []):NV z n (w++c::X)=jZ z n (kd w) (c::X):=by
 have e:(dZ (w++c::X) 111||dZ (w++c::X) 64)=(dZ w 111||dZ w 64):=by
  cases w with
  |nil=>exact absurd rfl U
  |cons=>rfl
 unfold NV;rw [e,h0,cf,ajl hw hc]
def yx(z:Int->Int):∀l:List CE,jQ z l=l.map (bj z)
 | []=>rfl
 |e::l=>by rw [jQ,yx z l];rfl
abbrev tH(z:Int->Int)(f:dU):Prop:=∃B,∀n,B<=n->∀r,NV z n (ck z f++10::r)=(f,r)
def acR{m:Nat}(e:CE)(he:WE z e)(hl:ck z {fl k with E:=[e]}=w++32::bj z e)(hw:w.all zb=true)(h0:(dZ w 111||dZ w 64)=false)(U:w≠ [])(hk:kd w=m)
 (hb:∀n r,jZ z n m (32::r)=({fl k with E:=[(fv z n r).1]},(fv z n r).2.drop 1)):tH z {fl k with E:=[e]}:=by
 obtain⟨B,ih⟩:=wJ he;refine⟨B,λn hn r=> ?_⟩;rw [hl,fy,hY,qx n _ hw rfl h0 U,hk,hb,ih n hn (10::r) (mg (by simp))];rfl
def apa{m:Nat}(p:PL)(hp:WP z p)(hl:ck z {fl k with To:=[p]}=w++32::fS z p)(hw:w.all zb=true)(h0:(dZ w 111||dZ w 64)=false)(U:w≠ [])(hk:kd w=m)
 (hb:∀n r,jZ z n m (32::r)=({fl k with To:=[(xa z n r).1]},(xa z n r).2.drop 1)):tH z {fl k with To:=[p]}:=by
 obtain⟨B,ih⟩:=Sv hp;refine⟨B,λn hn r=> ?_⟩;rw [hl,fy,hY,qx n _ hw rfl h0 U,hk,hb,ih n hn (10::r) (mg (by simp))];rfl
def Up{g:Int->dU}{m:Nat}{v:Int}(hl:ck z f=w++32::Lib.itoa v)(hw:w.all zb=true)(h0:(dZ w 111||dZ w 64)=false)(U:w≠ [])(hk:kd w=m)
 (hb:∀n r,jZ z n m (32::r)=(g (eK r).1,(eK r).2.drop 1)) (hg:g v=f):tH z f:=by
 refine⟨0,λn hn r=> ?_⟩;rw [hl,fy,hY,qx n _ hw rfl h0 U,hk,hb,iR v (im (c:=10) rfl),hg];rfl
def apb{m:Nat}(hl:ck z f=w)(hw:w.all zb=true)(h0:(dZ w 111||dZ w 64)=false)(U:w≠ [])(hk:kd w=m)(hb:∀n r,jZ z (n+1) m (10::r)=(f,r)):tH z f:=by
 refine⟨1,λn hn r=> ?_⟩;obtain⟨n,rfl⟩:∃k,n=k+1:=⟨n- 1,by omega⟩;rw [hl,qx (n+1) _ hw rfl h0 U,hk,hb]
def aCN(hp:WP z p)(he:WE z e):tH z {fl 2 with To:=[p],E:=[e]}:=by
 obtain⟨B,U⟩:=Sv hp;obtain⟨C,h2⟩:=wJ he;refine⟨B+C,λn hn r=> ?_⟩;have e1:ck z {fl 2 with To:=[p],E:=[e]}++10::r=fS z p++32::58::61::32::(bj z e++10::r):=by simp [ck,y5,rJ,jQ]
 have h3:=U n (by omega) (32::58::61::32::(bj z e++10::r)) (mg (by simp));obtain⟨c,t,e2,hc⟩:=amt hp;have e3:(dZ (fS z p++32::58::61::32::(bj z e++10::r)) 111||dZ (fS z p++32::58::61::32::(bj z e++10::r)) 64)=true:=by
  rw [e2];rcases hc with rfl|rfl<;>rfl
 rw [e1];unfold NV;rw [e3,bU,h3];simp only [lW,il,h2 n (by omega) (10::r) (mg (by simp))]
def aCR{o:Int}{rev:Bool}{d:CE}(he:WE z e)(hd:WE z d):tH z {fl 6 with O:=o,rev:=rev,E:=[e,d]}:=by
 obtain⟨B,U⟩:=wJ he;obtain⟨C,h2⟩:=wJ hd;refine⟨B+C,λn hn r=> ?_⟩;have h3:=U n (by omega) (32::46::46::32::(bj z d++10::r)) (mg (by simp));have h4:=h2 n (by omega) (10::r) (mg (by simp));obtain⟨c,t,e2,hc⟩:=alX he;cases rev with
 |true=>
  have e1:ck z {fl 6 with O:=o,rev:=true,E:=[e,d]}++10::r=[102,111,114]++32::111::(Lib.itoa o++32::105::110::32::114::101::118::101::114::115::101::32::(bj z e++32::46::46::32::(bj z d++10::r))):=FT;rw [e1,qx n _ rfl rfl rfl (by simp)];show jZ z n 6 _=_;simp [jZ,iR o (im (c:=32) rfl),dZ,h3,h4]
 |false=>
  have e1:ck z {fl 6 with O:=o,rev:=false,E:=[e,d]}++10::r=[102,111,114]++32::111::(Lib.itoa o++32::105::110::32::(bj z e++32::46::46::32::(bj z d++10::r))):=FT;have h5:dZ (bj z e++32::46::46::32::(bj z d++10::r)) 114=false:=by rw [e2];simp [dZ,hc]
  rw [e1,qx n _ rfl rfl rfl (by simp)];show jZ z n 6 _=_;simp [jZ,iR o (im (c:=32) rfl),h3,h4,h5]
def aAt(Ts:bQ):tH z {fl 9 with Ts:=Ts}:=by
 refine⟨Ts.length+1,λn hn r=> ?_⟩;cases hT:Ts with
 |nil=>
  have e1:ck z {fl 9 with Ts:=[]}++10::r=[115,99,111,112,101]++10::r:=vt;rw [e1,qx n _ rfl rfl rfl (by simp)];show jZ z n 9 _=_;have:=Dk (r:=10::r) (im rfl) (by simp) (l:=[]) n (fB);simp [dL]at this;simp [jZ,dZ,this]
 |cons a l=>
  have e1:ck z {fl 9 with Ts:=a::l}++10::r=[115,99,111,112,101]++32::116::97::115::107::115::(dL (a::l)++10::r):=vt;rw [hT]at hn;rw [e1,qx n _ rfl rfl rfl (by simp)];show jZ z n 9 _=_;have:=Dk (r:=10::r) (im rfl) (by simp) (l:=a::l) n (by simp at hn⊢;omega);simp [jZ,dZ,this]
def aAu(h:0<=m):tH z {fl 10 with N:=m}:=by
 refine⟨0,λn hn r=> ?_⟩
 by_cases h0:0<m
 ·have e1:ck z {fl 10 with N:=m}++10::r=[114,97,105,115,101]++32::(Lib.itoa m++10::r):=by simp [ck,h0]
  rw [e1,qx n _ rfl rfl rfl (by simp)];show jZ z n 10 _=_;simp [jZ,dZ,iR m (im (c:=10) rfl)]
 ·have:m=0:=by omega
  subst this;have e1:ck z {fl 10 with N:=0}++10::r=[114,97,105,115,101]++10::r:=vt;rw [e1,qx n _ rfl rfl rfl (by simp)];show jZ z n 10 _=_;simp [jZ,dZ]
def aAw(hp:WP z p)(h:b=false->q=0):tH z {fl 14 with To:=[p],entry:=m,In:=b,P:=q}:=by
 obtain⟨B,U⟩:=Sv hp;refine⟨B,λn hn r=> ?_⟩;cases b with
 |true=>
  have e1:ck z {fl 14 with To:=[p],entry:=m,In:=true,P:=q}++10::r=[99,111,117,110,116]++32::(fS z p++32::(Lib.itoa m++32::111::102::32::(Lib.itoa q++10::r))):=SC;have h3:=U n hn (32::(Lib.itoa m++32::111::102::32::(Lib.itoa q++10::r))) (mg (by simp));rw [e1,qx n _ rfl rfl rfl (by simp)];show jZ z n 14 _=_;simp [jZ,dZ,h3,iR m (im (c:=32) rfl),iR q (im (c:=10) rfl)]
 |false=>
  have:=h rfl;subst this;have e1:ck z {fl 14 with To:=[p],entry:=m,In:=false,P:=0}++10::r=[99,111,117,110,116]++32::(fS z p++32::(Lib.itoa m++10::r)):=SC;have h3:=U n hn (32::(Lib.itoa m++10::r)) (mg (by simp));rw [e1,qx n _ rfl rfl rfl (by simp)];show jZ z n 14 _=_;simp [jZ,dZ,h3,iR m (im (c:=10) rfl)]
def aAv(he:WE z e):tH z {fl 15 with lu:=b,E:=[e]}:=by
 obtain⟨B,U⟩:=wJ he;refine⟨B,λn hn r=> ?_⟩;have h3:=U n hn (10::r) (mg (by simp));obtain⟨c,t,e2,hc⟩:=alX he;cases b with
 |true=>
  have e1:ck z {fl 15 with lu:=true,E:=[e]}++10::r=[100,101,108,97,121]++32::117::110::116::105::108::32::(bj z e++10::r):=FT;rw [e1,qx n _ rfl rfl rfl (by simp)];show jZ z n 15 _=_;simp [jZ,dZ,h3]
 |false=>
  have e1:ck z {fl 15 with lu:=false,E:=[e]}++10::r=[100,101,108,97,121]++32::(bj z e++10::r):=FT;have h5:dZ (bj z e++10::r) 117=false:=by rw [e2];simp [dZ,hc]
  rw [e1,qx n _ rfl rfl rfl (by simp)];show jZ z n 15 _=_;simp [jZ,h5,h3]
def aBz{w:Int}{I:List CE}{O:List PL}(hm:WM z w E)(hI:∀e∈I,WE z e)(hO:∀p∈O,WP z p):tH z {fl 16 with T:=t,entry:=m,mode:=w,E:=E,Ins:=I,fE:=O}:=by
 obtain⟨B,U⟩:=ajk hm;obtain⟨C,h2⟩:=tA λe he=>wJ (hI e he);obtain⟨D,h3⟩:=tA λp hp=>Sv (hO p hp);refine⟨B+C+D+I.length+O.length+1,λn hn r=> ?_⟩;have e1:ck z {fl 16 with T:=t,entry:=m,mode:=w,E:=E,Ins:=I,fE:=O}++10::r=
  [99,97,108,108]++32::(Lib.itoa t++46::(Lib.itoa m++32::40::(jg (I.map (bj z))++32::45::62::32::(jg (O.map (fS z))++41::(nC z {fl 16 with mode:=w,E:=E}++10::r))))):=by
  simp [ck,yx];exact aju z rfl rfl
 have a1:=aaw (rd:=fv z n) (st:=32) (bM) (mg (by simp)) (tx:=bj z) (r:=[45,62,32]++(jg (O.map (fS z))++41::(nC z {fl 16 with mode:=w,E:=E}++10::r))) (l:=I)
  (λx hx=>⟨by obtain⟨c,t,e,hc⟩:=TG (hI x hx);exact⟨c,t,e,hc.2.2.2.2.1⟩,h2 n (by omega) x hx⟩) n (by omega)
 have a2:=aaw (rd:=xa z n) (st:=41) (bM) (mg (by simp)) (tx:=fS z) (r:=nC z {fl 16 with mode:=w,E:=E}++10::r) (l:=O)
  (λx hx=>⟨by obtain⟨c,t,e,hc⟩:=amt (hO x hx);exact⟨c,t,e,by rcases hc with rfl|rfl<;>decide⟩,h3 n (by omega) x hx⟩) n (by omega)
 rw [e1,qx n _ rfl rfl rfl (by simp)];show jZ z n 16 _=_;simp only [hY,nO]at a1;simp [jZ,iR t (im (c:=46) rfl),iR m (im (c:=32) rfl),a1,a2,U n (by omega) r]
def aBy{w:Int}(hm:WM z w E):tH z {fl 17 with P:=q,entry:=m,mode:=w,E:=E}:=by
 obtain⟨B,U⟩:=ajk hm;refine⟨B,λn hn r=> ?_⟩;have e1:ck z {fl 17 with P:=q,entry:=m,mode:=w,E:=E}++10::r=[112,101,110,116,114,121]++32::(Lib.itoa q++46::(Lib.itoa m++(nC z {fl 16 with mode:=w,E:=E}++10::r))):=by
  simp [ck];exact aju z rfl rfl
 rw [e1,qx n _ rfl rfl rfl (by simp)];show jZ z n 17 _=_;simp [jZ,iR q (im (c:=46) rfl),iR m (aD8 (r:=r) hm),U n hn r]
def aCO:tH z {fl 19 with els:=b}:=by
 refine⟨0,λn hn r=> ?_⟩;cases b with
 |true=>
  have e1:ck z {fl 19 with els:=true}++10::r=[115,101,108,101,99,116]++32::101::108::115::101::(10::r):=vt;exact akU
 |false=>
  have e1:ck z {fl 19 with els:=false}++10::r=[115,101,108,101,99,116]++10::r:=vt;exact akU
def aCP:tH z {fl 21 with T:=t,entry:=m,jT:=b}:=by
 refine⟨0,λn hn r=> ?_⟩;cases b with
 |true=>
  have e1:ck z {fl 21 with T:=t,entry:=m,jT:=true}++10::r=[114,101,113,117,101,117,101]++32::(Lib.itoa t++46::(Lib.itoa m++32::97::98::111::114::116::(10::r))):=vt;rw [e1,qx n _ rfl rfl rfl (by simp)];show jZ z n 21 _=_;simp [jZ,dZ,iR t (im (c:=46) rfl),iR m (im (c:=32) rfl)]
 |false=>
  have e1:ck z {fl 21 with T:=t,entry:=m,jT:=false}++10::r=[114,101,113,117,101,117,101]++32::(Lib.itoa t++46::(Lib.itoa m++10::r)):=vt;rw [e1,qx n _ rfl rfl rfl (by simp)];show jZ z n 21 _=_;simp [jZ,dZ,iR t (im (c:=46) rfl),iR m (im (c:=10) rfl)]
def aCS(Ts:bQ):tH z {fl 22 with Ts:=Ts}:=by
 refine⟨Ts.length+1,λn hn r=> ?_⟩;have:=Dk (r:=10::r) (im rfl) (by simp) (l:=Ts) n (by omega);have e0:ck z {fl 22 with Ts:=Ts}=[97,98,111,114,116]++dL Ts:=vt;have e1:∃c X,dL Ts++10::r=c::X/\zb c=false:=by
  cases Ts with
  |nil=>exact⟨_,_,rfl,rfl⟩
  |cons=>exact⟨_,_,rfl,rfl⟩
 obtain⟨c,X,e2,hc⟩:=e1;rw [e0,fy,e2,qx n _ rfl hc rfl (by simp)];rw [e2]at this;show jZ z n 22 _=_;simp [jZ,this]
def JD{L:List CS}{D:List CD}{H:List CH}{A:List CA}(h:WS z (.mk f L D H A)):tH z f:=by
 cases h with
 |null=>exact apb (w:=[110,117,108,108]) (m:=1) (vt) rfl rfl (by simp) rfl λn r=>yD
 |set p e hp he=>exact aCN hp he
 |seq=>exact apb (w:=[115,101,113]) (m:=3) (vt) rfl rfl (by simp) rfl λn r=>yD
 |ite e a b he=>exact acR (k:=4) (w:=[105,102]) (m:=4) e he (FT) rfl rfl (by simp) rfl λn r=>yD
 |Kj e a he=>exact acR (k:=5) (w:=[119,104,105,108,101]) (m:=5) e he (FT) rfl rfl (by simp) rfl λn r=>yD
 |fr o rev e d a he hd=>exact aCR he hd
 |mark m=>exact Up (g:=λv=>{fl 7 with N:=v}) (w:=[109,97,114,107]) (m:=7) (v:=m) (vt) rfl rfl (by simp) rfl (λn r=>yD) rfl
 |leave m=>exact Up (g:=λv=>{fl 8 with N:=v}) (w:=[108,101,97,118,101]) (m:=8) (v:=m) (vt) rfl rfl (by simp) rfl (λn r=>yD) rfl
 |scope Ts=>exact aAt Ts
 |raise m h=>exact aAu h
 |put e he=>exact acR (k:=11) (w:=[112,117,116]) (m:=11) e he (FT) rfl rfl (by simp) rfl λn r=>yD
 |get p hp=>exact apa (k:=12) (w:=[103,101,116]) (m:=12) p hp (SC) rfl rfl (by simp) rfl λn r=>yD
 |clock p hp=>exact apa (k:=13) (w:=[99,108,111,99,107]) (m:=13) p hp (SC) rfl rfl (by simp) rfl λn r=>yD
 |count p m q b hp h=>exact aAw hp h
 |NG e b he=>exact aAv he
 |call t m w E I O a b hm hI hO=>exact aBz hm hI hO
 |GF q m w E a b c hm=>exact aBy hm
 |acc m=>exact Up (g:=λv=>{fl 18 with entry:=v}) (w:=[97,99,99,101,112,116]) (m:=18) (v:=m) (vt) rfl rfl (by simp) rfl (λn r=>yD) rfl
 |bC=>exact aCO
 |lock q=>exact Up (g:=λv=>{fl 20 with P:=v}) (w:=[108,111,99,107,101,100]) (m:=20) (v:=q) (vt) rfl rfl (by simp) rfl (λn r=>yD) rfl
 |B6=>exact aCP
 |jT Ts=>exact aCS Ts
end
end Go.Proofs.B.T
namespace Go.aj
def qd{p:Prop}(h:p:=by exact⟨_,_,rfl,k rfl⟩):p:=h
def zU{p:Prop}(h:p:=by simp at hm;omega):p:=h
def ajC{p:Prop}(h:p:=by rw [e3];exact FV (by omega) qo _):p:=h
end Go.aj
namespace Go.aj
def ain:=@List.replicate_append_replicate
def vj:=@BEq.rfl
end Go.aj
namespace Go.Proofs.B.T
open Go Go.aj
section
variable {z:Int->Int}
variable{j k:Nat}{r:Tx}
abbrev Rd:=Nat->Tx->CS×Tx
def xi(k:Nat)(t:Tx):Bool:=t.take (2*k)==ind k
def Kr(rd:Rd)(k:Nat):Nat->Tx->List CS×Tx
 |0,t=>([],t)
 |m+1,t=>bif xi k t then let s:=rd k t;let r:=Kr rd k m s.2;(s.1::r.1,r.2)else([],t)
def UW(rd:Rd)(k:Nat):Nat->Tx->List CS×Tx
 |0,t=>([],t)
 |m+1,t=>let s:=rd k t;let r:=UW rd k m s.2;(s.1::r.1,r.2)
def Ei(rd:Rd)(k:Nat):Nat->Tx->List CD×Tx
 |0,t=>([],t)
 |m+1,t=>
  bif dZ (t.drop (2*(k+1))) 100 then
   let d:=rd (k+2) (t.drop (2*(k+1)+3))
   bif dZ (d.2.drop (2*(k+1))) 117 then
    let u:=rd (k+2) (d.2.drop (2*(k+1)+5))
    let r:=Ei rd k m u.2
    (.mk d.1 u.1::r.1,r.2)
   else
    let r:=Ei rd k m d.2
    (.mk d.1 jB::r.1,r.2)
  else([],t)
def Ks(rd:Rd)(k:Nat):Nat->Tx->List CH×Tx
 |0,t=>([],t)
 |m+1,t=>
  bif xi (k+1) t then
   let u:=t.drop (2*(k+1)+4)
   let x:=bif dZ (u.drop 1) 111 then([],u.drop 7)else yZ (m+1) u
   let s:=rd (k+2) (x.2.drop 1)
   let r:=Ks rd k m s.2
   (.mk x.1 s.1::r.1,r.2)
  else([],t)
def Aw(z:Int->Int)(n:Nat)(rd:Rd)(k:Nat):Nat->Tx->List CA×Tx
 |0,t=>([],t)
 |m+1,t=>
  bif xi (k+1) t&&(t.drop (2*(k+1))).take 2== [111,114]then
   let g:=fv z n (t.drop (2*(k+1)+3))
   let u:=g.2.drop 1
   bif dZ u 97 then
    let e:=eK (u.drop 7)
    let b:=rd (k+2) (e.2.drop 1)
    let a:=rd (k+2) b.2
    let r:=Aw z n rd k m a.2
    (.mk 1 g.1 e.1 [] b.1 a.1::r.1,r.2)
   else bif dZ u 116 then
    let r:=Aw z n rd k m (u.drop 10)
    (.mk 4 g.1 0 [] jB jB::r.1,r.2)
   else
    let e:=fv z n (u.drop 6)
    let a:=rd (k+2) (e.2.drop 1)
    let r:=Aw z n rd k m a.2
    (.mk (bif dZ u 100 then 2 else 3) g.1 0 [e.1] jB a.1::r.1,r.2)
  else([],t)
def ap2(k:Int):Nat:=if k=4∨k=16∨k=18 then 2 else if k=17 then 3 else if k=5∨k=6∨k=7∨k=20 then 1 else 0
def mP(z:Int->Int):Nat->Rd
 |0,_,t=>(jB,t)
 |n+1,k,t=>
  let p:=NV z n (t.drop (2*k))
  let f:=p.1
  if f.kind=9 then
   let D:=Ei (mP z n) k n p.2
   let s:=mP z n (k+2) (D.2.drop (2*(k+1)+6))
   let H:=Ks (mP z n) k n s.2
   (.mk f [s.1] D.1 H.1 [],H.2)
  else if f.kind=19 then
   let A:=Aw z n (mP z n) k n p.2
   bif f.els then let s:=mP z n (k+1) A.2;(.mk f [s.1] [] [] A.1,s.2)else(.mk f [jB] [] [] A.1,A.2)
  else if f.kind=3 then let L:=Kr (mP z n) (k+1) n p.2;(sm f L.1,L.2)
  else if f.mode=0/\f.kind=16 then(sm f [jB,jB],p.2)
  else if f.mode=0/\f.kind=17 then let s:=mP z n (k+1) p.2;(sm f [s.1,jB,jB],s.2)
  else let L:=UW (mP z n) (k+1) (ap2 f.kind) p.2;(sm f L.1,L.2)
def Lo(k:Nat)(r:Tx):Prop:=xi k r=false
def uj(k:Nat):(ind k).length =2*k:=by simp [ind]
def I3(k:Nat)(r:Tx):xi k (ind k++r)=true:=by
 unfold xi;rw [List.take_left' (uj k)];simp
def rR(k:Nat)(r:Tx):(ind k++r).drop (2*k)=r:=List.drop_left' (uj k)
def CZ(k m:Nat)(r:Tx):(ind k++r).drop (2*k+m)=r.drop m:=by rw [<-Zi,rR]
def aBL(k j:Nat):ind (k+j)=ind k++ind j:=by unfold ind;rw [Nat.mul_add];exact ain.symm
def FV(h:k<j){c:UInt8}(hc:c≠32)(r:Tx):Lo j (ind k++c::r):=by
 unfold Lo xi;rw [C8];intro e;have U:((ind k++c::r).take (2*j))[2*k]?=(ind j)[2*k]?:=by rw [e]
 rw [List.getElem?_take_of_lt (by omega),nM (by rw [uj];exact iZ _),uj,FI]at U;unfold ind at U;rw [C6,if_pos (by omega)]at U;injection U with U;exact hc U
def Sg(h:k<=j)(hl:Lo k r):Lo j r:=by
 unfold Lo xi at*;rw [C8]at*;intro e;refine hl ?_;obtain⟨d,rfl⟩:∃d,j=k+d:=⟨j- k,by omega⟩;have U:=xC (List.take (2*k)) e;rw [List.take_take,Nat.min_eq_left (by omega),aBL,List.take_left' (uj k)]at U;exact U
def alM(n:Int):∃c t,Lib.itoa n=c::t/\c≠114:=by
 obtain⟨c,t,U,h2⟩:=IZ n;exact⟨c,t,U,aaZ⟩
def aEd{f:dU}{L:List CS}{D:List CD}{H:List CH}{A:List CA}(h:WS z (.mk f L D H A)):∃c t,ck z f=c::t/\c≠32/\(∀r,((c::t)++10::r).take 2≠ [111,114])/\c≠101:=by
 have k:∀{c:UInt8} {t:Tx},(c==32||c==111||c==101)=false->c≠32/\(∀r,((c::t)++10::r).take 2≠ [111,114])/\c≠101:=λ{c t} h=>by
  simp only [Zj,C8]at h;exact⟨h.1.1,λr e=>by rw [hY,IM]at e;injection e with e _;exact h.1.2 e,h.2⟩
 cases h with
 |set p e hp he=>
  cases hp with
  |slot o off h=>
   obtain⟨c,t,U,h2⟩:=alM o;have q:∃u,ck z {fl 2 with To:=[⟨1,o,off,0,[]⟩],E:=[e]}=111::c::u:=by
    cases hz:z o==1<;>simp [ck,y5,fS,vv,U,hz]
   obtain⟨u,q⟩:=q;exact⟨_,_,q,bM,λr e=>by simp at e;exact h2 e,bM⟩
  |elem o off len a ha=>
   obtain⟨c,t,U,h2⟩:=alM o;have q:∃u,ck z {fl 2 with To:=[⟨2,o,off,len,[a]⟩],E:=[e]}=111::c::u:=by simp [ck,y5,fS,U]
   obtain⟨u,q⟩:=q;exact⟨_,_,q,bM,λr e=>by simp at e;exact h2 e,bM⟩
  |zr a ha=>exact⟨64,bj z a++32::58::61::32::bj z e,by simp [ck,y5,fS,rJ,jQ],k rfl⟩
 |null=>exact qd
 |seq=>exact qd
 |ite=>exact qd
 |Kj=>exact qd
 |fr=>exact qd
 |mark=>exact qd
 |leave=>exact qd
 |scope=>exact qd
 |raise=>exact qd
 |put=>exact qd
 |get=>exact qd
 |clock=>exact qd
 |count=>exact qd
 |NG=>exact qd
 |call=>exact qd
 |GF=>exact qd
 |acc=>exact qd
 |bC=>exact qd
 |lock=>exact qd
 |B6=>exact qd
 |jT=>exact qd
def Ns{s:CS}(h:WS z s)(k:Nat):∃c t,cM z k s=ind k++c::t/\c≠32/\(∀r,(c::(t++r)).take 2≠ [111,114])/\c≠101:=by
 obtain⟨f,L,D,H,A⟩:=s;obtain⟨c,t,e,U,h2,h3⟩:=aEd h;rw [cM,e];refine⟨c,_,rfl,U,λr=> ?_,h3⟩;have:=h2 ((if f.kind=9 then qt z k D++(ind (k+1)++98::101::103::105::110::10::((qF z (k+2) L).getD 0 []++uK z k H))
  else if f.kind=19 then nu z k A++(bif f.els then(qF z (k+1) L).flatten else [])
  else if f.mode=0/\f.kind=16 then []
  else if f.mode=0/\f.kind=17 then((qF z (k+1) L).take 1).flatten
  else(qF z (k+1) L).flatten)++r)
 exact sI
def yv(z:Int->Int)(k:Nat):∀l:List CS,qF z k l=l.map (cM z k)
 | []=>rfl
 |s::l=>by rw [qF,yv z k l];rfl
abbrev og(z:Int->Int)(rd:Rd)(k:Nat)(s:CS):Prop:=∀r,Lo (k+1) r->rd k (cM z k s++r)=(s,r)
def am7{l:List CS}(hw:∀s∈l,WS z s)(hr:Lo (k+1) r):Lo (k+1) ((l.map (cM z k)).flatten ++r):=by
 cases l with
 |nil=>exact hr
 |cons s l=>
  obtain⟨c,t,e,hc,_⟩:=Ns (hw s (ez ..)) k;rw [jG,mY,e,fy,fy];exact FV (Nat.lt_succ_self k) hc _
def ajj{rd:Rd}{k:Nat}{r:Tx}(hr:Lo k r):∀{l:List CS},(∀s∈l,WS z s)->(∀s∈l,og z rd k s)->∀m,l.length<m->Kr rd k m ((l.map (cM z k)).flatten ++r)=(l,r)
 | [],_,_,m+1,_=>by
   show Kr rd k (m+1) r=_;have h:xi k r=false:=hr;rw [Kr,h];rfl
 |s::l,hw,h,m+1,hm=>by
  have ih:=ajj hr (l:=l) (λx hx=>hw x (fJ _ hx)) (λx hx=>h x (fJ _ hx)) m (zU);have U:=h s (ez ..) ((l.map (cM z k)).flatten ++r) (am7 (λx hx=>hw x (fJ _ hx)) (Sg (Nat.le_succ k) hr));obtain⟨c,t,e,_⟩:=Ns (hw s (ez ..)) k;have h2:xi k (cM z k s++((l.map (cM z k)).flatten ++r))=true:=by rw [e,fy];exact I3 k _
  rw [jG,mY,fy,Kr,h2,bU,U];simp only [ih]
def ajp{rd:Rd}{k:Nat}{r:Tx}(hr:Lo (k+1) r):∀{l:List CS},(∀s∈l,WS z s)->(∀s∈l,og z rd k s)->UW rd k l.length ((l.map (cM z k)).flatten ++r)=(l,r)
 | [],_,_=>rfl
 |s::l,hw,h=>by
  have ih:=ajp hr (l:=l) (λx hx=>hw x (fJ _ hx)) (λx hx=>h x (fJ _ hx));have U:=h s (ez ..) ((l.map (cM z k)).flatten ++r) (am7 (λx hx=>hw x (fJ _ hx)) hr);rw [jG,mY,fy,fk,UW,U];simp only [ih]
def ajo{rd:Rd}{k:Nat}{r:Tx}:∀{l:List CD},(∀d∈l,WS z d.u)->(∀d∈l,og z rd (k+2) d.d/\og z rd (k+2) d.u)->∀m,l.length<m->Ei rd k m (qt z k l++(ind (k+1)++98::r))=(l,ind (k+1)++98::r)
 | [],_,_,m+1,_=>by
   show Ei rd k (m+1) (ind (k+1)++98::r)=_;rw [Ei,rR];rfl
 | .mk d u::l,hw,h,m+1,hm=>by
   have ih:=ajo (r:=r) (l:=l) (λx hx=>hw x (fJ _ hx)) (λx hx=>h x (fJ _ hx)) m (zU);obtain⟨U,h2⟩:=h _ (ez ..);have hu:=hw _ (ez ..);have e3:∃c X,qt z k l++(ind (k+1)++98::r)=ind (k+1)++c::X/\c≠32/\c≠117:=by
    cases l with
    |nil=>exact⟨98,r,rfl,bM,bM⟩
    |cons x l=>obtain⟨d,u⟩:=x;rw [qt,fy];exact⟨_,_,rfl,bM,bM⟩
   obtain⟨c,X,e3,qo,sq⟩:=e3
   by_cases hk:lA u=1
   ·have xk:u=jB:=by
     cases hu with
     |null=>rfl
     |_=>revert hk;simp [lA]
    have e:qt z k (.mk d u::l)++(ind (k+1)++98::r)=ind (k+1)++100::111::10::(cM z (k+2) d++(qt z k l++(ind (k+1)++98::r))):=by simp [qt,hk]
    have U:=U (qt z k l++(ind (k+1)++98::r)) (ajC);rw [e,Ei,rR,CZ];simp only [dZ,vk,lW,il,vj,bU];have U:rd (k+2) (cM z (k+2) d++(qt z k l++(ind (k+1)++98::r)))=(d,qt z k l++(ind (k+1)++98::r)):=U;rw [U];simp only;rw [show(qt z k l++(ind (k+1)++98::r)).drop (2*(k+1))=c::X by rw [e3,rR]];rw [show((c::X).head? ==some 117)=false by simpa using sq,cf,ih,xk]
   ·have e:qt z k (.mk d u::l)++(ind (k+1)++98::r)=ind (k+1)++100::111::10::(cM z (k+2) d++(ind (k+1)++117::110::100::111::10::(cM z (k+2) u++(qt z k l++(ind (k+1)++98::r))))):=by simp [qt,hk]
    have U:rd (k+2) (cM z (k+2) d++(ind (k+1)++117::110::100::111::10::(cM z (k+2) u++(qt z k l++(ind (k+1)++98::r)))))=(d,_):=U _ (FV (by omega) (bM) _);have h2:rd (k+2) (cM z (k+2) u++(qt z k l++(ind (k+1)++98::r)))=(u,_):=h2 _ (ajC);rw [e,Ei,rR,CZ];simp only [dZ,vk,lW,il,vj,bU];rw [U];simp only;rw [rR,CZ];simp only [vk,lW,il,vj,bU];rw [h2,ih]
def ao9{l:List CH}(hr:Lo (k+1) r):Lo (k+3) (uK z k l++r):=by
 cases l with
 |nil=>exact Sg (by omega) hr
 |cons x l=>obtain⟨x,s⟩:=x;rw [uK,fy];exact FV (by omega) (bM) _
def ajm{rd:Rd}{k:Nat}{r:Tx}(hr:Lo (k+1) r):∀{l:List CH},(∀h∈l,og z rd (k+2) h.body)->∀m,l.length+(l.map λh=>h.dP.length).sum <m->Ks rd k m (uK z k l++r)=(l,r)
 | [],_,m+1,_=>by
   show Ks rd k (m+1) r=_;have h:xi (k+1) r=false:=hr;rw [Ks,h];rfl
 | .mk x s::l,h,m+1,hm=>by
   have ih:=ajm hr (l:=l) (λx hx=>h x (fJ _ hx)) m (zU);have U:rd (k+2) (cM z (k+2) s++(uK z k l++r))=(s,_):=h _ (ez ..) _ (ao9 hr);have hx:x.length<m+1:=by simp [CH.dP]at hm;omega
   have e:uK z k (.mk x s::l)++r=ind (k+1)++119::104::101::110::((bif x.isEmpty then [32,111,116,104,101,114,115]else dL x)++10::(cM z (k+2) s++(uK z k l++r))):=by simp [uK]
   rw [e,Ks,I3,bU,CZ];simp only [lW,il];cases zd:x with
   |nil=>
    simp only [List.isEmpty_nil,bU,hY,nO,lW,il,dZ,vk,vj];rw [U,ih]
   |cons a x'=>
    have h3:=Dk (r:=10::(cM z (k+2) s++(uK z k l++r))) (im rfl) (by simp) (l:=a::x') (m+1) (by rw [<-zd];exact hx);obtain⟨c,t,h4,h5⟩:=IZ a;have h6:dZ ((dL (a::x')++10::(cM z (k+2) s++(uK z k l++r))).drop 1) 111=false:=by
     simp only [dL,h4,hY,lW,il,dZ,vk];simp;rintro rfl;revert h5;decide
    simp only [List.isEmpty_cons,cf,h6,h3,lW,il];rw [U,ih]
end
end Go.Proofs.B.T
namespace Go.aj
def amT{p:Prop}(h:p:=by
 have e3:=he (10::(cM z (k+2) a++(nu z k l++r))) (mg (by simp));rw [e0,Aw,I3,rR,CZ];simp only [IM,R7,vj,RD,bU,lW,il,e1,dZ,vk];simp [e3,ha' _ hl,ih]):p:=h
def aki{p:Prop}(h:p:=by
 refine⟨0,λn _ q e hq e2=> ?_⟩;rw [h]at e2;simp at e2):p:=h
end Go.aj
namespace Go.aj
def zD:=@Bool.true_and
end Go.aj
namespace Go.Proofs.B.T
open Go Go.aj
section
variable {z:Int->Int}
variable{k:Nat}{r:Tx}
def aql(z:Int->Int)(n:Nat)(rd:Rd)(k:Nat)(x:CA):Prop:=
 (∀r,Sp r->fv z n (bj z x.guard++r)=(x.guard,r))/\
 (((∃m,x= .mk 1 x.guard m [] x.body x.after)/\og z rd (k+2) x.body/\og z rd (k+2) x.after/\WS z x.after)∨
   (∃q e,(q=2∨q=3)/\(∀r,Sp r->fv z n (bj z e++r)=(e,r))/\x= .mk q x.guard 0 [e] jB x.after/\og z rd (k+2) x.after)∨x= .mk 4 x.guard 0 [] jB jB)
def aKh{l:List CA}(hr:Lo (k+3) r):Lo (k+3) (nu z k l++r):=by
 cases l with
 |nil=>exact hr
 |cons x l=>obtain⟨q,g,n,E,b,a⟩:=x;rw [nu,fy];exact FV (by omega) (bM) _
def aax{n:Nat}{rd:Rd}{k:Nat}{r:Tx}(hr:(xi (k+1) r&&(r.drop (2*(k+1))).take 2== [111,114])=false)(zj:Lo (k+3) r):
 ∀{l:List CA},(∀x∈l,aql z n rd k x)->∀m,l.length<m->Aw z n rd k m (nu z k l++r)=(l,r)
 | [],_,m+1,_=>by
   show Aw z n rd k (m+1) r=_;rw [Aw,hr];rfl
 | .mk q0 g n0 E0 b a::l,h,m+1,hm=>by
   have ih:=aax hr zj (l:=l) (λx hx=>h x (fJ _ hx)) m (zU);obtain⟨oe,hx⟩:=h _ (ez ..);have hg:∀r,Sp r->fv z n (bj z g++r)=(g,r):=oe;clear h oe;have hl:=aKh (z:=z) (k:=k) (l:=l) zj;rcases hx with⟨⟨i,ex⟩,hb,ha,hw⟩|⟨q,e,hq,he,ex,ha⟩|ex<;>(injection ex with x1 xg x2 x3 x4 x5;clear xg;subst x1;subst x2;subst x3)
   ·have pz:∀r,Lo (k+3) r->rd (k+2) (cM z (k+2) b++r)=(b,r):=hb;have ha':∀r,Lo (k+3) r->rd (k+2) (cM z (k+2) a++r)=(a,r):=ha;have hw':WS z a:=hw;have e0:nu z k (.mk 1 g n0 [] b a::l)++r=ind (k+1)++111::114::32::(bj z g++32::97::99::99::101::112::116::32::(Lib.itoa n0++10::(cM z (k+2) b++(cM z (k+2) a++(nu z k l++r))))):=by simp [nu,rK]
    have e1:=hg (32::97::99::99::101::112::116::32::(Lib.itoa n0++10::(cM z (k+2) b++(cM z (k+2) a++(nu z k l++r))))) (mg (by simp));have e2:Lo (k+3) (cM z (k+2) a++(nu z k l++r)):=by
     obtain⟨c,t,e,hc,_⟩:=Ns hw' (k+2);rw [e,fy];exact FV (by omega) hc _
    rw [e0,Aw,I3,rR,CZ];simp only [IM,R7,vj,RD,bU,lW,il,e1,dZ,vk,iR n0 (im (c:=10) rfl),pz _ e2,ha' _ hl,ih]
   ·subst x4;have ha':∀r,Lo (k+3) r->rd (k+2) (cM z (k+2) a++r)=(a,r):=ha;rcases hq with rfl|rfl
    ·have e0:nu z k (.mk 2 g 0 [e] jB a::l)++r=ind (k+1)++111::114::32::(bj z g++32::100::101::108::97::121::32::(bj z e++10::(cM z (k+2) a++(nu z k l++r)))):=by simp [nu,rK,jQ]
     have e1:=hg (32::100::101::108::97::121::32::(bj z e++10::(cM z (k+2) a++(nu z k l++r)))) (mg (by simp));exact amT
    ·have e0:nu z k (.mk 3 g 0 [e] jB a::l)++r=ind (k+1)++111::114::32::(bj z g++32::117::110::116::105::108::32::(bj z e++10::(cM z (k+2) a++(nu z k l++r)))):=by simp [nu,rK,jQ]
     have e1:=hg (32::117::110::116::105::108::32::(bj z e++10::(cM z (k+2) a++(nu z k l++r)))) (mg (by simp));exact amT
   ·subst x4;subst x5;have e0:nu z k (.mk 4 g 0 [] jB jB::l)++r=ind (k+1)++111::114::32::(bj z g++32::116::101::114::109::105::110::97::116::101::10::(nu z k l++r)):=by simp [nu,rK]
    have e1:=hg (32::116::101::114::109::105::110::97::116::101::10::(nu z k l++r)) (mg (by simp));rw [e0,Aw,I3,rR,CZ];simp only [IM,R7,vj,RD,bU,lW,il,e1,dZ,vk];simp [ih]
abbrev ox(z:Int->Int)(s:CS):Prop:=∃B,∀n,B<=n->∀k,og z (mP z n) k s
def lo0(hr:Lo (k+1) r):Lo (k+1+1) r:=Sg (by omega) hr
abbrev Kd(z:Int->Int)(s:CS):Prop:=WS z s/\(WS z s->ox z s)
def k0:∀s∈([]:List CS),Kd z s:=λ_ h=>aD
def kc{a:CS}{l:List CS}(ha:WS z a)(jC:WS z a->ox z a)(h:∀s∈l,Kd z s):∀s∈a::l,Kd z s:=List.forall_mem_cons.2 ⟨⟨ha,jC⟩,h⟩
def qT{f:dU}{L:List CS}(q:Int)(h:WS z (sm f L))(hk:∀s∈L,Kd z s)(lv:q≠16∨f.mode≠0:=by exact .inl (bM))(qp:q≠17∨f.mode≠0:=by exact .inl (bM))(hq:f.kind=q:=by rfl)
 (h9:q≠9:=by decide) (kp:q≠19:=by decide) (h3:q≠3:=by decide) (hc:L.length=ap2 q:=by rfl):ox z (sm f L):=by
 obtain⟨B,hB⟩:=JD h;obtain⟨C,hC⟩:=tA λs hs=>(hk s hs).2 (hk s hs).1;subst hq;have lv:¬(f.mode=0/\f.kind=16):=λh=>lv.elim (λe=>e h.2) λe=>e h.1;have qp:¬(f.mode=0/\f.kind=17):=λh=>qp.elim (λe=>e h.2) λe=>e h.1;refine⟨B+C+1,λn hn k r hr=> ?_⟩;obtain⟨n,rfl⟩:∃k,n=k+1:=⟨n- 1,by omega⟩;have e:cM z k (sm f L)++r=ind k++(ck z f++10::((L.map (cM z (k+1))).flatten ++r)):=by simp [cM,h9,kp,lv,qp,yv]
 rw [e,mP,rR,hB n (by omega)];simp only [h9,kp,h3,lv,qp,lI,<-hc];rw [ajp (lo0 hr) (λs hs=>(hk s hs).1) λs hs=>hC n (by omega) s hs (k+1)]
def aDw:∀{s:CS},WS z s->ox z s:=by
 intro s h;have h':=h
 induction h with
 |null=>exact qT 1 h' k0
 |set=>exact qT 2 h' k0
 |ite e a b he ha hb jC kY=>exact qT 4 h' (kc ha jC (kc hb kY k0))
 |Kj e a he ha jC=>exact qT 5 h' (kc ha jC k0)
 |fr o rev e d a he hd ha jC=>exact qT 6 h' (kc ha jC k0)
 |mark m a ha jC=>exact qT 7 h' (kc ha jC k0)
 |lock q a ha jC=>exact qT 20 h' (kc ha jC k0)
 |acc m a b ha hb jC kY=>exact qT 18 h' (kc ha jC (kc hb kY k0))
 |leave=>exact qT 8 h' k0
 |raise=>exact qT 10 h' k0
 |put=>exact qT 11 h' k0
 |get=>exact qT 12 h' k0
 |clock=>exact qT 13 h' k0
 |count=>exact qT 14 h' k0
 |NG=>exact qT 15 h' k0
 |B6=>exact qT 21 h' k0
 |jT=>exact qT 22 h' k0
 |seq L hL ih=>
  obtain⟨B,hB⟩:=JD h';obtain⟨C,hC⟩:=tA λs hs=>ih s hs (hL s hs);refine⟨B+C+L.length+1+1,λn hn k r hr=> ?_⟩;obtain⟨n,rfl⟩:∃k,n=k+1:=⟨n- 1,by omega⟩;have e:cM z k (sm (fl 3) L)++r=ind k++(ck z (fl 3)++10::((L.map (cM z (k+1))).flatten ++r)):=by simp [cM,yv]
  rw [e,mP,rR,hB n (by omega)];simp only [show(3:Int)=9 ↔ False by decide,show(3:Int)=19 ↔ False by decide,lI,lG];rw [ajj hr hL (λs hs=>hC n (by omega) s hs (k+1)) n (by omega)]
 |call t m w E I O a b hm hI hO h0 ha hb jC kY=>
  by_cases EJ:w=0
  ·obtain⟨rfl,rfl⟩:=h0 EJ;obtain⟨B,hB⟩:=JD h';refine⟨B+1,λn hn k r hr=> ?_⟩;obtain⟨n,rfl⟩:∃k,n=k+1:=⟨n- 1,by omega⟩;rw [cM,fy,fy,mP,rR];simp only [EJ,hY,true_and,and_self,lG,show(16:Int)=9 ↔ False by decide,show(16:Int)=19 ↔ False by decide,show(16:Int)=3 ↔ False by decide,lI,nO];subst EJ;rw [hB n (by omega)];simp only [show(16:Int)=9 ↔ False by decide,show(16:Int)=19 ↔ False by decide,show(16:Int)=3 ↔ False by decide,lI,true_and,lG]
  ·exact qT 16 h' (kc ha jC (kc hb kY k0)) (.inr EJ)
 |GF q m w E a b c hm h0 ha hb hc jC kY Hn=>
  by_cases EJ:w=0
  ·obtain⟨rfl,rfl⟩:=h0 EJ;obtain⟨B,hB⟩:=JD h';obtain⟨C,hC⟩:=jC ha;refine⟨B+C+1,λn hn k r hr=> ?_⟩;obtain⟨n,rfl⟩:∃k,n=k+1:=⟨n- 1,by omega⟩;subst EJ;have e:cM z k (sm {fl 17 with P:=q,entry:=m,mode:=0,E:=E} [a,jB,jB])++r=ind k++(ck z {fl 17 with P:=q,entry:=m,mode:=0,E:=E}++10::(cM z (k+1) a++r)):=by simp [cM,qF]
   rw [e,mP,rR,hB n (by omega)];simp only [show(17:Int)=9 ↔ False by decide,show(17:Int)=19 ↔ False by decide,show(17:Int)=3 ↔ False by decide,show(17:Int)=16 ↔ False by decide,and_false,lI,true_and,lG];rw [hC n (by omega) (k+1) r (lo0 hr)]
  ·exact qT 17 h' (kc ha jC (kc hb kY (kc hc Hn k0))) (.inl (bM)) (.inr EJ)
 |scope Ts a D H ha hD hU hH jC ihD ihU ihH=>
  obtain⟨B,hB⟩:=JD h';obtain⟨B1,U⟩:=jC ha;obtain⟨B2,h2⟩:=tA λd hd=>ihD d hd (hD d hd);obtain⟨B3,h3⟩:=tA λd hd=>ihU d hd (hU d hd);obtain⟨B4,h4⟩:=tA λx hx=>ihH x hx (hH x hx);refine⟨B+B1+B2+B3+B4+D.length+H.length+(H.map λh=>h.dP.length).sum +2,λn hn k r hr=> ?_⟩;obtain⟨n,rfl⟩:∃k,n=k+1:=⟨n- 1,by omega⟩;have e:cM z k (.mk {fl 9 with Ts:=Ts} [a] D H [])++r=ind k++(ck z {fl 9 with Ts:=Ts}++10::(qt z k D++(ind (k+1)++98::101::103::105::110::10::(cM z (k+2) a++(uK z k H++r))))):=by simp [cM,qF]
  rw [e,mP,rR,hB n (by omega)];simp only [lG];rw [ajo hU (λd hd=>⟨h2 n (by omega) d hd (k+2),h3 n (by omega) d hd (k+2)⟩) n (by omega)];simp only;rw [CZ];simp only [lW,il];rw [U n (by omega) (k+2) _ (ao9 hr)];simp only;rw [ajm hr (λx hx=>h4 n (by omega) x hx (k+2)) n (by omega)]
 |bC b a A h0 ha hb hc hA jC kY Hn=>
  obtain⟨B,hB⟩:=JD h';obtain⟨B1,U⟩:=jC ha;obtain⟨B2,h2⟩:=tA λx hx=>kY x hx (hb x hx);obtain⟨B3,h3⟩:=tA λx hx=>Hn x hx (hc x hx);obtain⟨B4,h4⟩:=tA λx hx=>wJ (hA x hx).1;obtain⟨B5,h5⟩:∃B,∀n,B<=n->∀x∈A,∀q e,(q=2∨q=3)->x= .mk q x.guard 0 [e] jB x.after->∀r,Sp r->fv z n (bj z e++r)=(e,r):=tA λx hx=>by
   rcases(hA x hx).2 with⟨m,h⟩|⟨q,e,hq,he,h⟩|h
   ·exact aki
   ·obtain⟨B,hB⟩:=wJ he;refine⟨B,λn hn q' e' _ e2 r hr=> ?_⟩;rw [h]at e2;simp at e2;rw [<-e2.2.2.1];exact hB n hn r hr
   ·exact aki
  refine⟨B+B1+B2+B3+B4+B5+A.length+2,λn hn k r hr=> ?_⟩;obtain⟨n,rfl⟩:∃k,n=k+1:=⟨n- 1,by omega⟩;have al:∀x∈A,aql z n (mP z n) k x:=λx hx=>by
   refine⟨h4 n (by omega) x hx,?_⟩;rcases(hA x hx).2 with h|⟨q,e,hq,he,h⟩|h
   ·exact .inl ⟨h,h2 n (by omega) x hx (k+2),h3 n (by omega) x hx (k+2),hc x hx⟩
   ·exact .inr (.inl ⟨q,e,hq,h5 n (by omega) x hx q e hq h,h,h3 n (by omega) x hx (k+2)⟩)
   ·exact .inr (.inr h)
  cases b with
  |false=>
   have:=h0 rfl;subst this;have e:cM z k (.mk {fl 19 with els:=false} [jB] [] [] A)++r=ind k++(ck z {fl 19 with els:=false}++10::(nu z k A++r)):=by simp [cM]
   have xp:xi (k+1) r=false:=hr;rw [e,mP,rR,hB n (by omega)];simp only [show(19:Int)=9 ↔ False by decide,lI,lG,cf];rw [aax (by rw [xp];rfl) (Sg (by omega) hr) al n (by omega)]
  |true=>
   have e:cM z k (.mk {fl 19 with els:=true} [a] [] [] A)++r=ind k++(ck z {fl 19 with els:=true}++10::(nu z k A++(cM z (k+1) a++r))):=by simp [cM,qF]
   obtain⟨c,t,e2,qo,sq⟩:=Ns ha (k+1);rw [e,mP,rR,hB n (by omega)];simp only [show(19:Int)=9 ↔ False by decide,lI,lG,bU];rw [aax (by
    rw [e2,fy,rR,hY,I3,zD,C8];exact sq.1 r) (by rw [e2,fy,hY];exact FV (by omega) qo _) al n (by omega)]
   simp only;rw [U n (by omega) (k+1) r (lo0 hr)]
end
section
variable{p:PG}
def zO(l:List OB)(o:Int):Int:=((l[o.toNat]?).map OB.size).getD 0
def lr:Nat->List OB->Tx
 |_,[]=>[]
 |i,o::l=>111::98::106::32::(Lib.itoa i++32::(Lib.itoa o.size++((bif o.ptr then 32::112::116::114::dL o.set else 32::(Lib.itoa o.lo++32::Lib.itoa o.hi))++10::lr (i+1) l)))
def sb(z:Int->Int):List CE->Tx
 | []=>[]
 |e::l=>32::32::119::104::101::110::32::(bj z e++10::sb z l)
def pj(z:Int->Int):Nat->List PR->Tx
 |_,[]=>[]
 |i,q::l=>112::114::111::116::32::(Lib.itoa i++32::(Lib.itoa q.ceil++(dL q.kV++10::(sb z q.bars++pj z (i+1) l))))
def tE:List EN->Tx
 | []=>[]
 |e::l=>32::32::101::110::116::114::121::(dL e.ins++32::45::62::(dL e.outs++10::tE l))
def pN(z:Int->Int):Nat->List TK->Tx
 |_,[]=>[]
 |i,t::l=>116::97::115::107::32::(Lib.itoa i++32::(Lib.itoa t.prio++32::(Lib.itoa t.dead++10::(tE t.aU++(cM z 1 t.body++pN z (i+1) l)))))
def px(p:PG):Tx:=lr 0 p.aR++101::120::99::115::32::(Lib.itoa p.dP++10::(pj (zO p.aR) 0 p.c5++pN (zO p.aR) 0 p.tasks))
structure WG(p:PG):Prop where
 obj:∀o∈p.aR,(o.ptr=true->o.lo=0/\o.hi=0)/\(o.ptr=false->o.set=[])
 Pq:∀q∈p.c5,∀e∈q.bars,WE (zO p.aR) e
 body:∀t∈p.tasks,WS (zO p.aR) t.body
def DW:Nat->Tx->List OB×Tx
 |0,t=>([],t)
 |m+1,t=>
  bif dZ t 111 then
   let i:=eK (t.drop 4)
   let s:=eK (i.2.drop 1)
   bif dZ (s.2.drop 1) 112 then
    let l:=yZ (m+1) (s.2.drop 4)
    let r:=DW m (l.2.drop 1)
    (⟨s.1,0,0,true,l.1⟩::r.1,r.2)
   else
    let a:=eK (s.2.drop 1)
    let b:=eK (a.2.drop 1)
    let r:=DW m (b.2.drop 1)
    (⟨s.1,a.1,b.1,false,[]⟩::r.1,r.2)
  else([],t)
def J3(z:Int->Int)(n:Nat):Nat->Tx->List CE×Tx
 |0,t=>([],t)
 |m+1,t=>bif dZ t 32 then let e:=fv z n (t.drop 7);let r:=J3 z n m (e.2.drop 1);(e.1::r.1,r.2)else([],t)
def J1(z:Int->Int)(n:Nat):Nat->Tx->List PR×Tx
 |0,t=>([],t)
 |m+1,t=>
  bif dZ t 112 then
   let i:=eK (t.drop 5)
   let c:=eK (i.2.drop 1)
   let l:=yZ n c.2
   let b:=J3 z n n (l.2.drop 1)
   let r:=J1 z n m b.2
   (⟨c.1,l.1,b.1⟩::r.1,r.2)
  else([],t)
def Uh:Nat->Tx->bQ×Tx
 |0,t=>([],t)
 |n+1,t=>
  match t with
  |32::45::62::t=>([],t)
  |t=>let a:=eK (t.drop 1);let r:=Uh n a.2;(a.1::r.1,r.2)
def J2(n:Nat):Nat->Tx->List EN×Tx
 |0,t=>([],t)
 |m+1,t=>
  bif dZ (t.drop 2) 101 then
   let a:=Uh n (t.drop 7)
   let b:=yZ n a.2
   let r:=J2 n m (b.2.drop 1)
   (⟨a.1,b.1⟩::r.1,r.2)
  else([],t)
def Ug(z:Int->Int)(n:Nat):Nat->Tx->List TK×Tx
 |0,t=>([],t)
 |m+1,t=>
  bif dZ t 116 then
   let i:=eK (t.drop 5)
   let q:=eK (i.2.drop 1)
   let d:=eK (q.2.drop 1)
   let e:=J2 n n (d.2.drop 1)
   let s:=mP z n 1 e.2
   let r:=Ug z n m s.2
   (⟨q.1,e.1,s.1,d.1⟩::r.1,r.2)
  else([],t)
def rdG(n:Nat)(t:Tx):PG:=
 let o:=DW n t
 let x:=eK (o.2.drop 5)
 let q:=J1 (zO o.1) n n (x.2.drop 1)
 let k:=Ug (zO o.1) n n q.2
 ⟨o.1,x.1,k.1,q.1⟩
def aiF{r:Tx}:∀{l:bQ} (n:Nat),l.length<n->Uh n (dL l++32::45::62::r)=(l,r)
 | [],n+1,_=>rfl
 |x::l,n+1,hn=>by
  have ih:=aiF (r:=r) (l:=l) n (by simp at hn;omega);have e:dL (x::l)++32::45::62::r=32::(Lib.itoa x++(dL l++32::45::62::r)):=by simp [dL]
  have U:eK (Lib.itoa x++(dL l++32::45::62::r))=(x,dL l++32::45::62::r):=iR x (abl l (im rfl));have h2:∀t,32::(Lib.itoa x++(dL l++32::45::62::r))≠32::45::62::t:=λt h=>by
   injection h with _ h;have e1:=U;rw [h]at e1;have e2:eK (45::62::t)=(0,62::t):=by simp [eK,val,sg]
   rw [e2]at e1;injection e1 with e1 e3;cases l with
   |nil=>rw [dL]at e3;simp at e3
   |cons=>rw [dL]at e3;simp at e3
  rw [e,Uh]
  ·simp only [lW,il,U,ih]
  ·exact h2
def aiE{r:Tx}(hr:dZ r 111=false):∀{l:List OB} (i:Nat),(∀o∈l,(o.ptr=true->o.lo=0/\o.hi=0)/\(o.ptr=false->o.set=[]))->∀m,l.length+(l.map λo=>o.set.length).sum <m->DW m (lr i l++r)=(l,r)
 | [],_,_,m+1,_=>by show DW (m+1) r=_;rw [DW,hr];rfl
 |⟨sz,lo,hi,ptr,st⟩::l,i,h,m+1,hm=>by
  have ih:=aiE hr (l:=l) (i+1) (λo ho=>h o (fJ _ ho)) m (zU);have U:=h _ (ez ..);have hs:st.length<m+1:=zU;cases ptr with
  |true=>
   obtain⟨rfl,rfl⟩:=U.1 rfl;have e:lr i (⟨sz,0,0,true,st⟩::l)++r=111::98::106::32::(Lib.itoa i++32::(Lib.itoa sz++32::112::116::114::(dL st++10::(lr (i+1) l++r)))):=by simp [lr]
   have h3:=Dk (r:=10::(lr (i+1) l++r)) (im rfl) (by simp) (l:=st) (m+1) hs;rw [e,DW];simp only [dZ,vk,vj,bU,lW,il,iR (i:Int) (im (c:=32) rfl),iR sz (im (c:=32) rfl),h3,ih]
  |false=>
   have:=U.2 rfl;simp only at this;subst this;have e:lr i (⟨sz,lo,hi,false,[]⟩::l)++r=111::98::106::32::(Lib.itoa i++32::(Lib.itoa sz++32::(Lib.itoa lo++32::(Lib.itoa hi++10::(lr (i+1) l++r))))):=by simp [lr]
   obtain⟨c,t,h4,h5⟩:=IZ lo;have h6:dZ (Lib.itoa lo++32::(Lib.itoa hi++10::(lr (i+1) l++r))) 112=false:=by
    rw [h4];simp [dZ];rintro rfl;revert h5;decide
   rw [e,DW];simp only [show dZ (111::98::106::32::(Lib.itoa i++32::(Lib.itoa sz++32::(Lib.itoa lo++32::(Lib.itoa hi++10::(lr (i+1) l++r)))))) 111=true from rfl,bU,cf,lW,il,iR (i:Int) (im (c:=32) rfl),iR sz (im (c:=32) rfl),h6,iR lo (im (c:=32) rfl),iR hi (im (c:=10) rfl),ih]
def aiH{z:Int->Int}{n:Nat}{r:Tx}(hr:dZ r 32=false):∀{l:List CE},(∀e∈l,∀r,Sp r->fv z n (bj z e++r)=(e,r))->∀m,l.length<m->J3 z n m (sb z l++r)=(l,r)
 | [],_,m+1,_=>by show J3 z n (m+1) r=_;rw [J3,hr];rfl
 |x::l,h,m+1,hm=>by
  have ih:=aiH hr (l:=l) (λo ho=>h o (fJ _ ho)) m (zU);have e:sb z (x::l)++r=32::32::119::104::101::110::32::(bj z x++10::(sb z l++r)):=by simp [sb]
  rw [e,J3];simp only [dZ,vk,vj,bU,lW,il,h x (ez ..) (10::(sb z l++r)) (mg (by simp)),ih]
def aiD{z:Int->Int}{n:Nat}{r:Tx}(hr:dZ r 112=false)(zj:dZ r 32=false):∀{l:List PR} (i:Nat),(∀q∈l,q.kV.length<n/\q.bars.length<n/\∀e∈q.bars,∀r,Sp r->fv z n (bj z e++r)=(e,r))->∀m,l.length<m->J1 z n m (pj z i l++r)=(l,r)
 | [],_,_,m+1,_=>by show J1 z n (m+1) r=_;rw [J1,hr];rfl
 |⟨c,cs,bs⟩::l,i,h,m+1,hm=>by
  have ih:=aiD hr zj (l:=l) (i+1) (λo ho=>h o (fJ _ ho)) m (zU);obtain⟨U,h2,h3⟩:=h _ (ez ..);have e:pj z i (⟨c,cs,bs⟩::l)++r=112::114::111::116::32::(Lib.itoa i++32::(Lib.itoa c++(dL cs++10::(sb z bs++(pj z (i+1) l++r))))):=by simp [pj]
  have k1:eK (Lib.itoa c++(dL cs++10::(sb z bs++(pj z (i+1) l++r))))=(c,_):=iR c (abl cs (im rfl));have k2:=Dk (r:=10::(sb z bs++(pj z (i+1) l++r))) (im rfl) (by simp) (l:=cs) n U;have k4:dZ (pj z (i+1) l++r) 32=false:=by
   cases l with
   |nil=>exact zj
   |cons=>rfl
  have k3:=aiH (z:=z) (n:=n) k4 (l:=bs) h3 n h2;rw [e,J1];simp only [dZ,vk,vj,bU,lW,il,iR (i:Int) (im (c:=32) rfl),k1,k2,k3,ih]
def aiG{n:Nat}{r:Tx}(hr:dZ (r.drop 2) 101=false):∀{l:List EN},(∀e∈l,e.ins.length<n/\e.outs.length<n)->∀m,l.length<m->J2 n m (tE l++r)=(l,r)
 | [],_,m+1,_=>by show J2 n (m+1) r=_;rw [J2,hr];rfl
 |⟨a,b⟩::l,h,m+1,hm=>by
  have ih:=aiG hr (l:=l) (λo ho=>h o (fJ _ ho)) m (zU);obtain⟨U,h2⟩:=h _ (ez ..);have e:tE (⟨a,b⟩::l)++r=32::32::101::110::116::114::121::(dL a++32::45::62::(dL b++10::(tE l++r))):=by simp [tE]
  have k1:=aiF (r:=dL b++10::(tE l++r)) (l:=a) n U;have k2:=Dk (r:=10::(tE l++r)) (im rfl) (by simp) (l:=b) n h2;rw [e,J2];simp only [dZ,vk,vj,bU,lW,il,k1,k2,ih]
def aiC{z:Int->Int}{n:Nat}:∀{l:List TK} (i:Nat),(∀t∈l,t.aU.length<n/\(∀e∈t.aU,e.ins.length<n/\e.outs.length<n)/\WS z t.body/\og z (mP z n) 1 t.body)->∀m,l.length<m->Ug z n m (pN z i l)=(l,[])
 | [],_,_,m+1,_=>rfl
 |⟨q,es,s,d⟩::l,i,h,m+1,hm=>by
  have ih:=aiC (z:=z) (n:=n) (l:=l) (i+1) (λo ho=>h o (fJ _ ho)) m (zU);obtain⟨U,h2,h3,h4⟩:=h _ (ez ..);obtain⟨c,t,e5,e6,_,k5⟩:=Ns h3 1;have k4:dZ ((cM z 1 s++pN z (i+1) l).drop 2) 101=false:=by
   simp only at e5;rw [e5,fy];show dZ ((ind 1++_).drop (2*1)) 101=false;rw [rR];simpa [dZ]using k5
  have k1:=aiG (n:=n) k4 (l:=es) h2 n U;have k2:Lo 2 (pN z (i+1) l):=by
   cases l with
   |nil=>rfl
   |cons=>rfl
  have k3:mP z n 1 (cM z 1 s++pN z (i+1) l)=(s,pN z (i+1) l):=h4 _ k2;rw [pN,Ug];simp only [dZ,vk,vj,bU,lW,il,iR (i:Int) (im (c:=32) rfl),iR q (im (c:=32) rfl),iR d (im (c:=10) rfl),k1,k3,ih]
def ajn(h:WG p):∃B,∀n,B<=n->rdG n (px p)=p:=by
 obtain⟨B1,U⟩:∃B,∀n,B<=n->∀q∈p.c5,q.kV.length<n/\q.bars.length<n/\∀e∈q.bars,∀r,Sp r->fv (zO p.aR) n (bj (zO p.aR) e++r)=(e,r):=tA λq hq=>by
  obtain⟨B,hB⟩:=tA λe he=>wJ (h.Pq q hq e he);exact⟨B+q.kV.length+q.bars.length+1,λn hn=>⟨by omega,by omega,λe he=>hB n (by omega) e he⟩⟩
 obtain⟨B2,h2⟩:∃B,∀n,B<=n->∀t∈p.tasks,t.aU.length<n/\(∀e∈t.aU,e.ins.length<n/\e.outs.length<n)/\WS (zO p.aR) t.body/\og (zO p.aR) (mP (zO p.aR) n) 1 t.body:=tA λt ht=>by
  obtain⟨B,hB⟩:=aDw (h.body t ht);obtain⟨C,hC⟩:∃B,∀n,B<=n->∀e∈t.aU,e.ins.length<n/\e.outs.length<n:=tA λe _=>⟨e.ins.length+e.outs.length+1,λn hn=>⟨by omega,by omega⟩⟩;exact⟨B+C+t.aU.length+1,λn hn=>⟨by omega,hC n (by omega),h.body t ht,hB n (by omega) 1⟩⟩
 refine⟨B1+B2+p.aR.length+(p.aR.map λo=>o.set.length).sum +p.c5.length+p.tasks.length+1,λn hn=> ?_⟩;have k1:=aiE (r:=101::120::99::115::32::(Lib.itoa p.dP++10::(pj (zO p.aR) 0 p.c5++pN (zO p.aR) 0 p.tasks))) rfl 0 h.obj n (by omega);have k2:=aiD (z:=zO p.aR) (n:=n) (r:=pN (zO p.aR) 0 p.tasks) (by cases p.tasks<;>rfl) (by cases p.tasks<;>rfl) 0 (U n (by omega)) n (by omega);have k3:=aiC (z:=zO p.aR) (n:=n) 0 (h2 n (by omega)) n (by omega);unfold rdG px;rw [k1];simp only [lW,il,iR p.dP (im (c:=10) rfl),k2,k3]
def aCB{q:PG}(hp:WG p)(hq:WG q)(h:px p=px q):p=q:=by
 obtain⟨B,U⟩:=ajn hp;obtain⟨C,h2⟩:=ajn hq;rw [<-U (B+C) (by omega),h,h2 (B+C) (by omega)]
end
end Go.Proofs.B.T
namespace Go.aj
def S6{p:Prop}(h:p:=by simp only [mT,fk,gD];omega):p:=h
def abb{p:Prop}(h:p:=by simp only [mT,cw,fk,gD];omega):p:=h
end Go.aj
namespace Go.aj
def MD:=@List.take_length
def vq:=@decide_eq_true
end Go.aj
namespace Go.Proofs.B
open Go Go.aj T
section
variable{n:Int}
abbrev bs(t:List UInt8):ByteArray:=⟨⟨t⟩⟩
abbrev mT:Nat:=140737488355328
def rB(t:List UInt8):aY:=t.map λb=>[cE b.toNat]
def E.cat{A B:ByteArray}{a b:List UInt8}{k:Nat->Nat->ByteArray->Option UO}{r:UO}(h:a.length+b.length<=mT)(hA:A=bs a)(hB:B=bs b)(hk:E (λN n=>k N n (bs (a++b))) r):E (λN n=>cC A B (k N n)) r:=by
 subst hA;subst hB;exact aA (vq h) hk
def aad:∀k u,u<10^(k+1)->(Lib.decDigits u).length <=k+1
 |0,u,h=>by
  have h:u<10:=h;rw [Lib.decDigits,dif_pos h];exact iZ _
 |k+1,u,h=>by
  rw [Lib.decDigits];split
  ·exact Nat.le_add_left _ _
  ·rw [cw];have:=aad k (u/10) (by rw [Nat.pow_succ]at h;omega);exact fB
def kr(h:cQ n=true):(Lib.itoa n).length <=20:=by
 simp only [cQ,bw,gG]at h;unfold Lib.itoa;split
 ·have:=aad 18 n.natAbs (by omega);rw [fk];omega
 ·exact qR (aad 18 n.toNat (by omega)) (by omega)
def Bi:∀{l:bQ},(∀n∈l,cQ n=true)->(dL l).length <=21*l.length
 | [],_=>iZ _
 |n::l,h=>by
  have:=kr (h n (ez ..));have:=Bi (l:=l) λx hx=>h x (fJ _ hx);simp only [dL,fk,cw];omega
def aiT:∀(l m:bQ),dL (l++m)=dL l++dL m
 | [],m=>rfl
 |n::l,m=>by simp only [hY,dL,aiT l m,fy]
def Js{α:Type}{l:List α}{i:Nat}(h:i<l.length):l.take (i+1)=l.take i++[l[i]]:=(List.take_append_getElem h).symm
def aKs(h:cQ n=true):Ev XU [iI n] (0,[.str (bs (Lib.itoa n))]):=bh axb (aA h aH)
def aLc(h:cQ n=true):Ev W3 [iI n,iI 10] (0,[.str (bs (Lib.itoa n))]):=bh aug (aA (sJ) aH)
def jW(h:cQ n=true):Ev jE [iI n] (0,[.str (bs (Lib.itoa n))]):=bh azp (ah (aKs h) aH)
def Aq(h:cQ n=true):Ev xy [iI n] (0,[.str (bs (Lib.itoa n))]):=bh azr (ah (aLc h) aH)
def Dr{b:Bool}{t:List UInt8}:Ev zz [aJ b,.str (bs t)] (0,[.str (bs (bif b then t else []))]):=by
 cases b
 ·exact bh agL (av aH)
 ·exact bh agL (bp aH)
def DF{l:bQ}(hl:l.length<=mx)(hr:∀n∈l,cQ n=true):Ev zA [aM (ints l)] (0,[.str (bs (dL l))]):=by
 have key:=ku (P:=λi=>cq QK [.str (bs (dL (l.take i))),aM (ints l),iI (ln (ints l)),iI (i:Int)] (0,[.str (bs (dL l))])) (m:=l.length)
  (bF afN (az eo (aq (by rw [MD]))))
  λi hi ih=>bF afN<|bE (dz hi)<|aA (cb hi)<|by
   rw [wF hi,ix hi hl];have he:l.getD i 0=l[i]:=by simp [List.getD,hi]
   rw [he];have hn:=hr l[i] (ei hi);have U:=kr hn;have h2:=Bi (l:=l.take i) λx hx=>hr x (List.mem_of_mem_take hx);rw [sB]at h2;have h3:(dL (l.take (i+1)))=dL (l.take i)++([32]++Lib.itoa l[i]):=by rw [Js hi,aiT];simp [dL]
   rw [h3]at ih;simp only [mx]at hl;refine ah (jW hn)<|E.cat (a:=[32]) (b:=Lib.itoa l[i]) (S6) rfl rfl<|E.cat (a:=dL (l.take i)) (b:=[32]++Lib.itoa l[i]) (abb) rfl rfl ih
 exact bh ayT (ah key.diag aH)
def opE{k:Int}(h0:0<=k)(U:k<19):Ev QO [cE k] (0,[.str (bs (pV k))]):=by
 refine bh axQ (aA (by simp [h0,U]) (aq ?_));have:∀j:Nat,j<19->UY j=bs (pV j):=bM;have:=this k.toNat (by omega);rw [this,show((k.toNat:Nat):Int)=k by omega]
end
end Go.Proofs.B
namespace Go.aj
def am4{p:Prop}(h:p:=by
 rw [dk hi,ix hi hl];rw [Js hi,C9,Zo,<-fy]at ih;have h2:(l.take i).flatten.length +(l[i]).length <=l.flatten.length:=by
  have e:(l.take (i+1)).flatten ++(l.drop (i+1)).flatten =l.flatten:=by rw [<-C9,RK]
  have:=xC List.length e;rw [Js hi,C9,Zo,cw,cw]at this;omega
 refine ah (anA (by rw [cw];omega) 1) ih):p:=h
def Dp{p:Prop}(h:p:=by rw [MD];rfl):p:=h
def alo{p:Prop}(h:p:=by exact vq (by show((rB t).length +(rB u).length)*1<=140737488355328;rw [Sw,Sw];simp only [mT]at h;omega)):p:=h
end Go.aj
namespace Go.aj
def wD:=@List.length_replicate
def Zo:=@List.flatten_singleton
end Go.aj
namespace Go.Proofs.B
open Go Go.aj T
section
variable{l:List (List UInt8)}{t u:List UInt8}{n:Nat}{O:aY}
def aaz(t u:List UInt8):rB t++rB u=rB (t++u):=(tj ..).symm
def Sw(t:List UInt8):(rB t).length =t.length:=fY ..
def aiA:∀n:Nat,Lib.repeatL [32,32] n=ind n
 |0=>rfl
 |n+1=>by
  show [32,32]++Lib.repeatL [32,32] n=List.replicate (2*(n+1)) 32;rw [aiA n,show 2*(n+1)=2*n+1+1 by omega];rfl
abbrev bA(k:Nat)(O:aY):AV:= J [.ptr 0 0 0,.au k,bl O]
abbrev b0(k:Nat)(O:aY):AV:= J [.jh,.au k,bl O]
def anA(h:t.length+u.length<=mT)(k:Nat):Ev Ll [.str (bs u),bA k O,aX (rB t)] (0,[iI (u.length:Int),bA 2 O,aX (rB (t++u))]):=by
 refine bh ard (ah (bh ael aH) (aA ?_ (aq ?_)))
 ·exact alo
 ·rw [<-aaz];rfl
def aE1(h:t.length+u.length<=mT)(k:Nat):Ev V4 [.str (bs u),b0 k O,aX (rB t)] (0,[iI (u.length:Int),bA 2 O,aX (rB (t++u))]):=by
 refine bh arh (ah (bh arp aH) (aA ?_ (aq ?_)))
 ·exact alo
 ·rw [<-aaz];rfl
def wbE(h:t.length+1<=mT)(k:Nat):Ev PJ [cE 10,bA k O,aX (rB t)] (0,[bA 2 O,aX (rB (t++[10]))]):=by
 refine bh arq (ah (bh ael aH) (aA ?_ (aq ?_)))
 ·exact vq (by show((rB t).length +1)*1<=140737488355328;rw [Sw];simp only [mT]at h;omega)
 ·rw [<-aaz];rfl
def Ue(h:2*n<=mT):Ev Qn [.str ((⟨#[32,32]⟩:ByteArray)),iI (n:Int)] (0,[.str (bs (ind n))]):=by
 refine bh av0 (aA ?_ (aq ?_))
 ·simp only [mT]at h;rw [bw,bw,gG,gG,gG];refine⟨⟨by omega,by omega⟩,?_⟩;show 2*((n:Int)).toNat <=140737488355328;omega
 ·rw [pZ,<-aiA];rfl
abbrev kQ(l:List (List UInt8)):aY:=l.map λt=>[AV.str (bs t)]
def aDP(hl:l.length<=mx)(h:t.length+l.flatten.length<=mT):cq Lv [e7 (kQ l),iI (ln (kQ l)),iI 0,bA 2 O,aX (rB t)] (0,[bA 2 O,aX (rB (t++l.flatten))]):=by
 have key:=ku (P:=λi=>cq Lv [e7 (kQ l),iI (ln (kQ l)),iI (i:Int),bA 2 O,aX (rB (t++(l.take i).flatten))] (0,[bA 2 O,aX (rB (t++l.flatten))])) (m:=l.length)
  (bF aeI (az eo (aq (Dp))))
  λi hi ih=>bF aeI<|bE (dz hi)<|aA (cb hi)<|am4
 simpa using key
def amr(hl:l.length<=mx)(h:t.length+(2*n+l.flatten.length+1)<=mT)(k:Nat):
 Ev Qa [iI (n:Int),e7 (kQ l),b0 k O,aX (rB t)] (0,[bA 2 O,aX (rB (t++(ind n++(l.flatten++[10]))))]):=by
 have hi:(ind n).length =2*n:=wD ..;refine bh auP (ah (Ue (by omega)) (ah (aE1 (by rw [hi];omega) 1) (ah (aDP hl (by rw [cw,hi];omega)).diag (ah (wbE (by rw [cw,cw,hi];omega) 1) (aq ?_)))));simp only [fy];rfl
def aDO(hl:l.length<=mx)(h:t.length+l.flatten.length<=mT):cq Lp [e7 (kQ l),iI (ln (kQ l)),iI 0,bA 2 O,aX (rB t)] (0,[bA 2 O,aX (rB (t++l.flatten))]):=by
 have key:=ku (P:=λi=>cq Lp [e7 (kQ l),iI (ln (kQ l)),iI (i:Int),bA 2 O,aX (rB (t++(l.take i).flatten))] (0,[bA 2 O,aX (rB (t++l.flatten))])) (m:=l.length)
  (bF aeu (az eo (aq (Dp))))
  λi hi ih=>bF aeu<|bE (dz hi)<|aA (cb hi)<|am4
 simpa using key
def zR(hl:l.length<=mx)(h:t.length+(2*n+l.flatten.length+1)<=mT)(k:Nat):
 Ev sw [iI (n:Int),e7 (kQ l),bA k O,aX (rB t)] (0,[bA 2 O,aX (rB (t++(ind n++(l.flatten++[10]))))]):=by
 have hi:(ind n).length =2*n:=wD ..;refine bh ate (ah (Ue (by omega)) (ah (anA (by rw [hi];omega) 1) (ah (aDO hl (by rw [cw,hi];omega)).diag (ah (wbE (by rw [cw,cw,hi];omega) 1) (aq ?_)))));simp only [fy];rfl
end
section
variable{α:Type}{l:List α}{i:Nat}
def amo{O:List OB}{o off:Int}(h0:0<=o)(U:o<O.length)(ho:cQ o=true)(hf:cQ off=true)(W:aY)(k:Nat):
 Ev P2 [iI o,iI off,bA k (O.map cg),aX W] (0,[.str (bs (vv (zO O) o off)),bA 1 (O.map cg),aX W]):=by
 obtain⟨i,rfl⟩:=C7 h0;have hi:i<O.length:=by omega
 have a1:=kr ho;have a2:=kr hf;have hz:zO O (i:Int)=O[i].size :=by simp [zO,hi]
 have hg:gI (gA (O.map cg) ((i:Int).toNat)) 0=zO O (i:Int):=by rw [dk hi,hz];rfl
 unfold vv;refine bh auo (aA (cb hi) ?_);show E (λN _=>bif gI (gA (O.map cg) ((i:Int).toNat)) 0==1 then _ else _) _;rw [hg];cases hb:zO O (i:Int)==1 with
 |true=>exact bp (ah (jW ho) (E.cat (a:=[111]) (b:=Lib.itoa i) (S6) rfl rfl aH))
 |false=>
  refine av (ah (jW ho) (E.cat (a:=[111]) (b:=Lib.itoa i) (S6) rfl rfl (E.cat (a:=[111]++Lib.itoa i) (b:=[46]) (abb) rfl rfl (ah (jW hf) (E.cat (a:=[111]++Lib.itoa i++[46]) (b:=Lib.itoa off) (abb) rfl rfl (aq ?_))))));rw [show 111::(Lib.itoa (i:Int)++46::Lib.itoa off)=[111]++Lib.itoa (i:Int)++[46]++Lib.itoa off by simp];rfl
def aAf{β:Type}{f:α->β}{x:β}(h:i<l.length):((l.take i).map f++List.replicate (l.length- i) x).set i (f l[i])=(l.take (i+1)).map f++List.replicate (l.length-(i+1)) x:=by
 have hl:((l.take i).map f).length =i:=fB;rw [List.set_append_right _ _ (by omega),hl,FI,Js h,tj,show l.length- i=(l.length-(i+1))+1 by omega,Rv,List.set_cons_zero,fy];rfl
def aBO{f:α->Row}{x:Row}(h:i<l.length):gA ((l.take i).map f++List.replicate (l.length- i) x) ((i:Int).toNat)=x:=by
 have hl:((l.take i).map f).length =i:=fB;have:((l.take i).map f++List.replicate (l.length- i) x)[i]?=some x:=by
  rw [nM (by omega),hl,FI,C6,if_pos (by omega)]
 show(List.getD _ ((i:Int).toNat) [])=x;rw [pZ,wA,this];rfl
def aLe{z:Int->Int}{O W:aY}{l:List CE}(hl:l.length<=mx)(h:∀e∈l,∀k,Ev pC [J (aZ e),bA k O,aX W] (0,[.str (bs (bj z e)),bA 1 O,aX W]))(k:Nat):
 cq H2 [bR (l.map aZ),iI (ln (l.map aZ)),iI 0,bA k O,aX W,e7 (List.replicate l.length [.str ByteArray.empty])] (0,[bA 1 O,aX W,e7 (kQ (l.map (bj z)))]):=by
 have key:=ku (P:=λi=>∀k,cq H2 [bR (l.map aZ),iI (ln (l.map aZ)),iI (i:Int),bA k O,aX W,e7 ((l.take i).map (λe=>[AV.str (bs (bj z e))])++List.replicate (l.length- i) [.str ByteArray.empty])] (0,[bA 1 O,aX W,e7 (kQ (l.map (bj z)))])) (m:=l.length)
  (λk=>bF aeA (az eo (aq (by rw [MD,FI,List.replicate_zero,rV];simp only [kQ,IT];rfl))))
  λi hi ih k=>bF aeA<|bE (dz hi)<|aA (cb hi)<|by
   rw [dk hi,iK,ix hi hl];have hn:((l.take i).map (λe=>[AV.str (bs (bj z e))])++List.replicate (l.length- i) [AV.str ByteArray.empty]).length =l.length:=fB;refine ah (h _ (ei hi) 1) (aA (by rw [hn];exact FX hi) (aA (by rw [hn,pZ];exact vq hi) ?_));rw [aBO hi,pZ];have e:setAt [AV.str ByteArray.empty] 0 [.str (gS [AV.str (bs (bj z l[i])),bA 1 O,aX W] 0)]=(λe=>[AV.str (bs (bj z e))]) l[i]:=rfl;show cq H2 [_,_,_,_,_,e7 (List.set _ i (setAt [AV.str ByteArray.empty] 0 [.str (gS [AV.str (bs (bj z l[i])),bA 1 O,aX W] 0)]))] _;rw [e,aAf hi];exact ih 1
 simpa using key k
end
end Go.Proofs.B
namespace Go.aj
def fN{p:Prop}(h:p:=by simp only [mT,cw,fk,gD]at hL⊢;omega):p:=h
def ux{p:Prop}(h:p:=by simp only [mT,jg,cw,fk,gD]at hL⊢;omega):p:=h
def wK{p:Prop}(h:p:=by simp only [mx,CE.L,fk,gD];omega):p:=h
def Tv{p:Prop}(h:p:=by rcases fV.1 hy with rfl|hy;exact ea;rw [my.1 hy];exact eb):p:=h
def SX{p:Prop}(h:p:=by rw [my.1 hy];exact ea):p:=h
def SV{p:Prop}(h:p:=by simp only [mx]at hl;omega):p:=h
def Jb{p:Prop}(h:p:=by cases hy):p:=h
end Go.aj
namespace Go.Proofs.B
open Go Go.aj T
section
variable{e:CE}{W:aY}
inductive RE(m:Nat):CE->Prop
 |mk(e:CE)(n:cQ e.N=true)(o:cQ e.O=true)(f:cQ e.off=true)(l:cQ e.len=true)(a:cQ e.lo=true)(b:cQ e.hi=true)(sl:e.kind=2->0<=e.O/\e.O<m)(h:∀y∈e.L,RE m y):RE m e
def aiv:∀l:List (List UInt8),I8 (kQ l)=some (l.map bs)
 | []=>rfl
 |t::l=>by simp only [kQ,jG,I8];rw [show(l.map λt=>[AV.str (bs t)])=kQ l from rfl,aiv l]
def alL:∀l:List (List UInt8),Lib.join l [44,32]=jg l
 | []=>rfl
 | [x]=>by simp [Lib.join,List.intercalate,jg]
 |x::y::l=>by
  have:=alL (y::l);simp only [Lib.join,List.intercalate]at this;simp only [Lib.join,List.intercalate,List.intersperse_cons_cons,mY,this,jg];rfl
def abP{l:List (List UInt8)}(hl:l.length<=mx)(h:(jg l).length <=mT):Ev LV [e7 (kQ l),.str ((⟨#[44,32]⟩:ByteArray))] (0,[.str (bs (jg l))]):=by
 have e:J5 (l.map bs) (⟨#[44,32]⟩:ByteArray)=bs (jg l):=by
  rw [<-alL];unfold J5;rw [IT];show bs (Lib.join (l.map λt=>t) [44,32])=_;rw [List.map_id']
 refine bh axa ?_;unfold Ur;rw [aiv];show E (λN _=>bf _ _) _;rw [e];refine aA ?_ aH;rw [bw,gG,gG,fY];exact⟨SV,h⟩
def yx(z:Int->Int):∀l,jQ z l=l.map (bj z)
 | []=>rfl
 |e::l=>by simp only [jQ,jG,yx z l]
def vV{z:Int->Int}{O:aY}(hl:e.L.length<=mx)(h:∀y∈e.L,∀k,Ev pC [J (aZ y),bA k O,aX W] (0,[.str (bs (bj z y)),bA 1 O,aX W])){r:UO}{F:Nat->Nat->Nat->ak->Option UO}(hF:E (λN n=>F N n 0 [bA 1 O,aX W,J (aZ e),e7 (kQ (e.L.map (bj z)))]) r)(k:Nat):
 E (λN n=>bf (decide (0<=ln (gR (aZ e) 8))&&decide (ln (gR (aZ e) 8)<=ln (gR (aZ e) 8))&&decide (ln (gR (aZ e) 8)*16<=140737488355328)) (bO (Wu (FU CX EE N) N [bA 1 (gR [.ptr 0 0 0,.au k,bl O] 2),aX W,J (bg lU 0 (aZ e)),e7 (List.replicate (ln (gR (aZ e) 8)).toNat [.str ByteArray.empty])]) (F N n))) r:=by
 have h8:gR (aZ e) 8=e.L.map aZ:=by cases e;exact Y5 _
 have hn:ln (gR (aZ e) 8)=(e.L.length:Int):=by rw [h8];simp [ln]
 rw [hn,iK];simp only [mx]at hl;refine aA (by rw [bw,bw,gG,gG,gG];omega) (ah (cL asz (ah (o:=(0,[bA 1 O,aX W,e7 (kQ (e.L.map (bj z)))])) ?_ aH)) ?_)
 ·have:=(aLe (z:=z) (O:=O) (W:=W) (l:=e.L) hl h 1).diag;rw [<-h8]at this;rw [pZ];exact this
 ·show E (λN n=>F N n 0 [bA 1 O,aX W,J (bg lU 0 (aZ e)),e7 (kQ (e.L.map (bj z)))]) r;rw [iK];exact hF
def exE{O:List OB}(h:WE (zO O) e):RE O.length e->(bj (zO O) e).length <=mT->∀k,Ev pC [J (aZ e),bA k (O.map cg),aX W] (0,[.str (bs (bj (zO O) e)),bA 1 (O.map cg),aX W]):=by
 induction h with
 |num n=>
  intro hR hL k;obtain⟨_,rn,ro,rf,rl,ra,rb,sl,hk⟩:=hR;simp only [CE.N,CE.O,CE.off,CE.len,CE.lo,CE.hi,CE.L]at rn ro rf rl ra rb hk;have hx:bj (zO O) (.mk 1 0 n 0 0 0 0 0 [])=Lib.itoa n:=qD;rw [hx]at hL⊢;refine bh u5 (vV (z:=zO O) (wK) (λy hy=>Jb) ?_ k);exact bp<|ah (Aq rn)<|aH
 |slot o off h=>
  intro hR hL k;obtain⟨_,rn,ro,rf,rl,ra,rb,sl,hk⟩:=hR;obtain⟨s1,s2⟩:=sl rfl;refine bh u5 (vV (z:=zO O) (by simp only [mx,CE.L,gD];omega) (λy hy=>Jb) ?_ k);exact av<|bp<|ah (amo s1 s2 ro rf W 1)<|aH
 |elem o off len a ha ia=>
  intro hR hL k;obtain⟨_,rn,ro,rf,rl,ra,rb,sl,hk⟩:=hR;simp only [CE.N,CE.O,CE.off,CE.len,CE.lo,CE.hi,CE.L]at rn ro rf rl ra rb hk;have hx:bj (zO O) (.mk 3 0 0 o off len 0 0 [a])=[111]++Lib.itoa o++[91]++Lib.itoa off++[58]++Lib.itoa len++[32]++bj (zO O) a++[93]:=qD;rw [hx]at hL⊢;have ea:=λk=>ia (hk a (by simp)) (ux) k;refine bh u5 (vV (z:=zO O) (wK) (λy hy=>SX) ?_ k);exact av<|av<|bp<|ah (jW ro)<|E.cat (a:=[111]) (b:=Lib.itoa o) (fN) rfl rfl<|E.cat (a:=[111]++Lib.itoa o) (b:=[91]) (fN) rfl rfl<|ah (jW rf)<|E.cat (a:=[111]++Lib.itoa o++[91]) (b:=Lib.itoa off) (fN) rfl rfl<|E.cat (a:=[111]++Lib.itoa o++[91]++Lib.itoa off) (b:=[58]) (fN) rfl rfl<|ah (jW rl)<|E.cat (a:=[111]++Lib.itoa o++[91]++Lib.itoa off++[58]) (b:=Lib.itoa len) (fN) rfl rfl<|E.cat (a:=[111]++Lib.itoa o++[91]++Lib.itoa off++[58]++Lib.itoa len) (b:=[32]) (fN) rfl rfl<|aA rfl<|aA rfl<|E.cat (a:=[111]++Lib.itoa o++[91]++Lib.itoa off++[58]++Lib.itoa len++[32]) (b:=bj (zO O) a) (fN) rfl rfl<|E.cat (a:=[111]++Lib.itoa o++[91]++Lib.itoa off++[58]++Lib.itoa len++[32]++bj (zO O) a) (b:=[93]) (fN) rfl rfl<|aH
 |un p a hp ha ia=>
  intro hR hL k;obtain⟨_,rn,ro,rf,rl,ra,rb,sl,hk⟩:=hR;simp only [CE.N,CE.O,CE.off,CE.len,CE.lo,CE.hi,CE.L]at rn ro rf rl ra rb hk;have hx:bj (zO O) (.mk 4 p 0 0 0 0 0 0 [a])=[40]++pV p++[32]++bj (zO O) a++[41]:=qD;rw [hx]at hL⊢;have ea:=λk=>ia (hk a (by simp)) (ux) k;refine bh u5 (vV (z:=zO O) (wK) (λy hy=>SX) ?_ k);exact av<|av<|av<|bp<|ah (opE (k:=p) (by omega) (by omega))<|E.cat (a:=[40]) (b:=pV p) (fN) rfl rfl<|E.cat (a:=[40]++pV p) (b:=[32]) (fN) rfl rfl<|aA rfl<|aA rfl<|E.cat (a:=[40]++pV p++[32]) (b:=bj (zO O) a) (fN) rfl rfl<|E.cat (a:=[40]++pV p++[32]++bj (zO O) a) (b:=[41]) (fN) rfl rfl<|aH
 |bin p a b hp ha hb ia ib=>
  intro hR hL k;obtain⟨_,rn,ro,rf,rl,ra,rb,sl,hk⟩:=hR;simp only [CE.N,CE.O,CE.off,CE.len,CE.lo,CE.hi,CE.L]at rn ro rf rl ra rb hk;have hx:bj (zO O) (.mk 5 p 0 0 0 0 0 0 [a,b])=[40]++bj (zO O) a++[32]++pV p++[32]++bj (zO O) b++[41]:=qD;rw [hx]at hL⊢;have ea:=λk=>ia (hk a (by simp)) (ux) k;have eb:=λk=>ib (hk b (by simp)) (ux) k;refine bh u5 (vV (z:=zO O) (wK) (λy hy=>Tv) ?_ k);exact av<|av<|av<|av<|bp<|aA rfl<|aA rfl<|E.cat (a:=[40]) (b:=bj (zO O) a) (fN) rfl rfl<|E.cat (a:=[40]++bj (zO O) a) (b:=[32]) (fN) rfl rfl<|ah (opE (k:=p) (by omega) (by omega))<|E.cat (a:=[40]++bj (zO O) a++[32]) (b:=pV p) (fN) rfl rfl<|E.cat (a:=[40]++bj (zO O) a++[32]++pV p) (b:=[32]) (fN) rfl rfl<|aA rfl<|aA rfl<|E.cat (a:=[40]++bj (zO O) a++[32]++pV p++[32]) (b:=bj (zO O) b) (fN) rfl rfl<|E.cat (a:=[40]++bj (zO O) a++[32]++pV p++[32]++bj (zO O) b) (b:=[41]) (fN) rfl rfl<|aH
 |Oz a b ha hb ia ib=>
  intro hR hL k;obtain⟨_,rn,ro,rf,rl,ra,rb,sl,hk⟩:=hR;simp only [CE.N,CE.O,CE.off,CE.len,CE.lo,CE.hi,CE.L]at rn ro rf rl ra rb hk;have hx:bj (zO O) (.mk 6 0 0 0 0 0 0 0 [a,b])=[40]++bj (zO O) a++[32,116,104,101,110,32]++bj (zO O) b++[41]:=qD;rw [hx]at hL⊢;have ea:=λk=>ia (hk a (by simp)) (ux) k;have eb:=λk=>ib (hk b (by simp)) (ux) k;refine bh u5 (vV (z:=zO O) (wK) (λy hy=>Tv) ?_ k);exact av<|av<|av<|av<|av<|bp<|aA rfl<|aA rfl<|E.cat (a:=[40]) (b:=bj (zO O) a) (fN) rfl rfl<|E.cat (a:=[40]++bj (zO O) a) (b:=[32,116,104,101,110,32]) (fN) rfl rfl<|aA rfl<|aA rfl<|E.cat (a:=[40]++bj (zO O) a++[32,116,104,101,110,32]) (b:=bj (zO O) b) (fN) rfl rfl<|E.cat (a:=[40]++bj (zO O) a++[32,116,104,101,110,32]++bj (zO O) b) (b:=[41]) (fN) rfl rfl<|aH
 |els a b ha hb ia ib=>
  intro hR hL k;obtain⟨_,rn,ro,rf,rl,ra,rb,sl,hk⟩:=hR;simp only [CE.N,CE.O,CE.off,CE.len,CE.lo,CE.hi,CE.L]at rn ro rf rl ra rb hk;have hx:bj (zO O) (.mk 7 0 0 0 0 0 0 0 [a,b])=[40]++bj (zO O) a++[32,101,108,115,101,32]++bj (zO O) b++[41]:=qD;rw [hx]at hL⊢;have ea:=λk=>ia (hk a (by simp)) (ux) k;have eb:=λk=>ib (hk b (by simp)) (ux) k;refine bh u5 (vV (z:=zO O) (wK) (λy hy=>Tv) ?_ k);exact av<|av<|av<|av<|av<|av<|bp<|aA rfl<|aA rfl<|E.cat (a:=[40]) (b:=bj (zO O) a) (fN) rfl rfl<|E.cat (a:=[40]++bj (zO O) a) (b:=[32,101,108,115,101,32]) (fN) rfl rfl<|aA rfl<|aA rfl<|E.cat (a:=[40]++bj (zO O) a++[32,101,108,115,101,32]) (b:=bj (zO O) b) (fN) rfl rfl<|E.cat (a:=[40]++bj (zO O) a++[32,101,108,115,101,32]++bj (zO O) b) (b:=[41]) (fN) rfl rfl<|aH
 |ite a b c ha hb hc ia ib ic=>
  intro hR hL k;obtain⟨_,rn,ro,rf,rl,ra,rb,sl,hk⟩:=hR;simp only [CE.N,CE.O,CE.off,CE.len,CE.lo,CE.hi,CE.L]at rn ro rf rl ra rb hk;have hx:bj (zO O) (.mk 8 0 0 0 0 0 0 0 [a,b,c])=[40,105,102,32]++jg [bj (zO O) a,bj (zO O) b,bj (zO O) c]++[41]:=qD;rw [hx]at hL⊢;have ea:=λk=>ia (hk a (by simp)) (ux) k;have eb:=λk=>ib (hk b (by simp)) (ux) k;have ec:=λk=>ic (hk c (by simp)) (ux) k;refine bh u5 (vV (z:=zO O) (wK) (λy hy=>by rcases fV.1 hy with rfl|hy;exact ea;rcases fV.1 hy with rfl|hy;exact eb;rw [my.1 hy];exact ec) ?_ k);exact av<|av<|av<|av<|av<|av<|av<|bp<|ah (abP (l:=[bj (zO O) a,bj (zO O) b,bj (zO O) c]) (by simp only [mx,fk,gD];omega) (fN))<|E.cat (a:=[40,105,102,32]) (b:=jg [bj (zO O) a,bj (zO O) b,bj (zO O) c]) (fN) rfl rfl<|E.cat (a:=[40,105,102,32]++jg [bj (zO O) a,bj (zO O) b,bj (zO O) c]) (b:=[41]) (fN) rfl rfl<|aH
 |n7 lo hi a ha ia=>
  intro hR hL k;obtain⟨_,rn,ro,rf,rl,ra,rb,sl,hk⟩:=hR;simp only [CE.N,CE.O,CE.off,CE.len,CE.lo,CE.hi,CE.L]at rn ro rf rl ra rb hk;have hx:bj (zO O) (.mk 9 0 0 0 0 0 lo hi [a])=[91]++Lib.itoa lo++[46,46]++Lib.itoa hi++[32]++bj (zO O) a++[93]:=qD;rw [hx]at hL⊢;have ea:=λk=>ia (hk a (by simp)) (ux) k;refine bh u5 (vV (z:=zO O) (wK) (λy hy=>SX) ?_ k);exact av<|av<|av<|av<|av<|av<|av<|av<|bp<|ah (Aq ra)<|E.cat (a:=[91]) (b:=Lib.itoa lo) (fN) rfl rfl<|E.cat (a:=[91]++Lib.itoa lo) (b:=[46,46]) (fN) rfl rfl<|ah (Aq rb)<|E.cat (a:=[91]++Lib.itoa lo++[46,46]) (b:=Lib.itoa hi) (fN) rfl rfl<|E.cat (a:=[91]++Lib.itoa lo++[46,46]++Lib.itoa hi) (b:=[32]) (fN) rfl rfl<|aA rfl<|aA rfl<|E.cat (a:=[91]++Lib.itoa lo++[46,46]++Lib.itoa hi++[32]) (b:=bj (zO O) a) (fN) rfl rfl<|E.cat (a:=[91]++Lib.itoa lo++[46,46]++Lib.itoa hi++[32]++bj (zO O) a) (b:=[93]) (fN) rfl rfl<|aH
 |lt a b ha hb ia ib=>
  intro hR hL k;obtain⟨_,rn,ro,rf,rl,ra,rb,sl,hk⟩:=hR;simp only [CE.N,CE.O,CE.off,CE.len,CE.lo,CE.hi,CE.L]at rn ro rf rl ra rb hk;have hx:bj (zO O) (.mk 10 0 0 0 0 0 0 0 [a,b])=[40,108,101,116,32]++bj (zO O) a++[32,105,110,32]++bj (zO O) b++[41]:=qD;rw [hx]at hL⊢;have ea:=λk=>ia (hk a (by simp)) (ux) k;have eb:=λk=>ib (hk b (by simp)) (ux) k;refine bh u5 (vV (z:=zO O) (wK) (λy hy=>Tv) ?_ k);exact av<|av<|av<|av<|av<|av<|av<|av<|av<|bp<|aA rfl<|aA rfl<|E.cat (a:=[40,108,101,116,32]) (b:=bj (zO O) a) (fN) rfl rfl<|E.cat (a:=[40,108,101,116,32]++bj (zO O) a) (b:=[32,105,110,32]) (fN) rfl rfl<|aA rfl<|aA rfl<|E.cat (a:=[40,108,101,116,32]++bj (zO O) a++[32,105,110,32]) (b:=bj (zO O) b) (fN) rfl rfl<|E.cat (a:=[40,108,101,116,32]++bj (zO O) a++[32,105,110,32]++bj (zO O) b) (b:=[41]) (fN) rfl rfl<|aH
 |loc n=>
  intro hR hL k;obtain⟨_,rn,ro,rf,rl,ra,rb,sl,hk⟩:=hR;simp only [CE.N,CE.O,CE.off,CE.len,CE.lo,CE.hi,CE.L]at rn ro rf rl ra rb hk;have hx:bj (zO O) (.mk 11 0 n 0 0 0 0 0 [])=[36]++Lib.itoa n:=qD;rw [hx]at hL⊢;refine bh u5 (vV (z:=zO O) (wK) (λy hy=>Jb) ?_ k);exact av<|av<|av<|av<|av<|av<|av<|av<|av<|av<|bp<|ah (Aq rn)<|E.cat (a:=[36]) (b:=Lib.itoa n) (fN) rfl rfl<|aH
 |Ps o=>
  intro hR hL k;obtain⟨_,rn,ro,rf,rl,ra,rb,sl,hk⟩:=hR;simp only [CE.N,CE.O,CE.off,CE.len,CE.lo,CE.hi,CE.L]at rn ro rf rl ra rb hk;have hx:bj (zO O) (.mk 12 0 0 o 0 0 0 0 [])=[38]++Lib.itoa o:=qD;rw [hx]at hL⊢;refine bh u5 (vV (z:=zO O) (wK) (λy hy=>Jb) ?_ k);exact av<|av<|av<|av<|av<|av<|av<|av<|av<|av<|av<|bp<|ah (jW ro)<|E.cat (a:=[38]) (b:=Lib.itoa o) (fN) rfl rfl<|aH
 |zr a ha ia=>
  intro hR hL k;obtain⟨_,rn,ro,rf,rl,ra,rb,sl,hk⟩:=hR;simp only [CE.N,CE.O,CE.off,CE.len,CE.lo,CE.hi,CE.L]at rn ro rf rl ra rb hk;have hx:bj (zO O) (.mk 13 0 0 0 0 0 0 0 [a])=[64]++bj (zO O) a:=qD;rw [hx]at hL⊢;have ea:=λk=>ia (hk a (by simp)) (ux) k;refine bh u5 (vV (z:=zO O) (wK) (λy hy=>SX) ?_ k);exact av<|av<|av<|av<|av<|av<|av<|av<|av<|av<|av<|av<|bp<|aA rfl<|aA rfl<|E.cat (a:=[64]) (b:=bj (zO O) a) (fN) rfl rfl<|aH
 |Pp n=>
  intro hR hL k;obtain⟨_,rn,ro,rf,rl,ra,rb,sl,hk⟩:=hR;simp only [CE.N,CE.O,CE.off,CE.len,CE.lo,CE.hi,CE.L]at rn ro rf rl ra rb hk;have hx:bj (zO O) (.mk 14 0 n 0 0 0 0 0 [])=[35]++Lib.itoa n:=qD;rw [hx]at hL⊢;refine bh u5 (vV (z:=zO O) (wK) (λy hy=>Jb) ?_ k);exact av<|av<|av<|av<|av<|av<|av<|av<|av<|av<|av<|av<|av<|ah (Aq rn)<|E.cat (a:=[35]) (b:=Lib.itoa n) (fN) rfl rfl<|aH
end
section
variable{O:List OB}{W:aY}
def uZ{e:CE}(h:WE (zO O) e)(hR:RE O.length e)(hL:(bj (zO O) e).length <=mT)(k:Nat):Ev pC [J (bg lU 0 (aZ e)),bA k (O.map cg),aX W] (0,[.str (bs (bj (zO O) e)),bA 1 (O.map cg),aX W]):=by
 rw [iK];exact exE h hR hL k
structure RP(m:Nat)(p:PL):Prop where
 o:cQ p.O=true
 f:cQ p.off=true
 l:cQ p.len=true
 sl:p.kind=1->0<=p.O/\p.O<m
 e:∀x∈p.E,RE m x
def aCD{p:PL}(h:WP (zO O) p)(hR:RP O.length p)(hL:(fS (zO O) p).length <=mT)(k:Nat):Ev CG [J (cN p),bA k (O.map cg),aX W] (0,[.str (bs (fS (zO O) p)),bA 1 (O.map cg),aX W]):=by
 obtain⟨ro,rf,rl,sl,re⟩:=hR;cases h with
 |slot o off h=>
  obtain⟨s1,s2⟩:=sl rfl;exact bh Wx<|bp<|ah (amo s1 s2 ro rf W 1)<|aH
 |elem o off len a ha=>
  have hx:fS (zO O) ⟨2,o,off,len,[a]⟩=[111]++Lib.itoa o++[91]++Lib.itoa off++[58]++Lib.itoa len++[32]++bj (zO O) a++[93]:=SD;rw [hx]at hL⊢;have ea:=uZ (W:=W) ha (re a (my.2 rfl)) (fN);exact bh Wx<|av<|bp<|ah (jW ro)<|E.cat (a:=[111]) (b:=Lib.itoa o) (fN) rfl rfl<|E.cat (a:=[111]++Lib.itoa o) (b:=[91]) (fN) rfl rfl<|ah (jW rf)<|E.cat (a:=[111]++Lib.itoa o++[91]) (b:=Lib.itoa off) (fN) rfl rfl<|E.cat (a:=[111]++Lib.itoa o++[91]++Lib.itoa off) (b:=[58]) (fN) rfl rfl<|ah (jW rl)<|E.cat (a:=[111]++Lib.itoa o++[91]++Lib.itoa off++[58]) (b:=Lib.itoa len) (fN) rfl rfl<|E.cat (a:=[111]++Lib.itoa o++[91]++Lib.itoa off++[58]++Lib.itoa len) (b:=[32]) (fN) rfl rfl<|aA rfl<|ah (ea 1)<|E.cat (a:=[111]++Lib.itoa o++[91]++Lib.itoa off++[58]++Lib.itoa len++[32]) (b:=bj (zO O) a) (fN) rfl rfl<|E.cat (a:=[111]++Lib.itoa o++[91]++Lib.itoa off++[58]++Lib.itoa len++[32]++bj (zO O) a) (b:=[93]) (fN) rfl rfl<|aH
 |zr a ha=>
  have hx:fS (zO O) ⟨3,0,0,0,[a]⟩=[64]++bj (zO O) a:=SD;rw [hx]at hL⊢;have ea:=uZ (W:=W) ha (re a (my.2 rfl)) (fN);exact bh Wx<|av<|av<|aA rfl<|ah (ea 1)<|E.cat (a:=[64]) (b:=bj (zO O) a) (fN) rfl rfl<|aH
def aD7{f:dU}{L D H A:aY}(h:WM (zO O) f.mode f.E)(hR:∀e∈f.E,RE O.length e)(hL:(nC (zO O) f).length <=mT)(k:Nat):
 Ev LB [J (eQ f L D H A),bA k (O.map cg),aX W] (0,[.str (bs (nC (zO O) f)),bA 1 (O.map cg),aX W]):=by
 obtain⟨k1,n1,o1,t1,q1,y1,i1,v1,u1,l1,b1,m,E1,T1,I1,O1,S1⟩:=f;simp only at h hR;unfold nC at hL⊢;simp only [rJ]at hL⊢;cases h with
 |smp=>exact bh PW<|av<|av<|av<|aH
 |els=>exact bh PW<|bp<|aH
 |tmd a ha=>
  replace hL:([32,111,114,32]++bj (zO O) a).length <=mT:=hL;have ea:=uZ (W:=W) ha (hR a (my.2 rfl)) (fN);exact bh PW<|av<|bp<|aA rfl<|ah (ea 1)<|E.cat (a:=[32,111,114,32]) (b:=bj (zO O) a) (fN) rfl rfl<|aH
 |unt a ha=>
  replace hL:([32,117,110,116,105,108,32]++bj (zO O) a).length <=mT:=hL;have ea:=uZ (W:=W) ha (hR a (my.2 rfl)) (fN);exact bh PW<|av<|av<|bp<|aA rfl<|ah (ea 1)<|E.cat (a:=[32,117,110,116,105,108,32]) (b:=bj (zO O) a) (fN) rfl rfl<|aH
end
end Go.Proofs.B
namespace Go.aj
def hZ{p:Prop}(h:p:=by simp only [mT,mx,cw,fk,gD]at hL aN aO aT aP ay aS pw⊢;omega):p:=h
def rZ{p:Prop}(h:p:=by simp [ck,rJ,y5,jQ]):p:=h
def Ge{p:Prop}(h:p:=by show _∈(_::_:List CE);simp):p:=h
end Go.aj
namespace Go.Proofs.B
open Go Go.aj T
section
variable{s:CS}{O:List OB}{W:aY}
structure RF(m:Nat)(f:dU):Prop where
 N:cQ f.N=true
 O:cQ f.O=true
 T:cQ f.T=true
 P:cQ f.P=true
 y:cQ f.entry=true
 S:(∀n∈f.Ts,cQ n=true)/\f.Ts.length<=mx
 E:∀e∈f.E,RE m e
 I:(∀e∈f.Ins,RE m e)/\f.Ins.length<=mx
 To:∀p∈f.To,RP m p
 Out:(∀p∈f.fE,RP m p)/\f.fE.length<=mx
def MQ{p:PL}(h:WP (zO O) p)(hR:RP O.length p)(hL:(fS (zO O) p).length <=mT)(k:Nat):Ev CG [J (bg Ir 0 (cN p)),bA k (O.map cg),aX W] (0,[.str (bs (fS (zO O) p)),bA 1 (O.map cg),aX W]):=aCD h hR hL k
def amx(h:WM (zO O) s.f.mode s.f.E)(hR:∀e∈s.f.E,RE O.length e)(hL:(nC (zO O) s.f).length <=mT)(k:Nat):
 Ev LB [J (bg fU 0 (encS s)),bA k (O.map cg),aX W] (0,[.str (bs (nC (zO O) s.f)),bA 1 (O.map cg),aX W]):=by
 rw [gE];cases s;exact aD7 h hR hL k
def aEb(l:bQ):decide (0<ln (ints l))= !l.isEmpty:=by
 cases l with
 |nil=>rfl
 |cons a l=>exact vq (by simp only [ln,jG,fk];omega)
abbrev HQ(O:List OB)(W:aY)(s:CS):Prop:=∀k,Ev oU [J (encS s),bA k (O.map cg),aX W] (0,[.str (bs (ck (zO O) s.f)),bA 1 (O.map cg),aX W])
def ZA{b:Bool}{t:List UInt8}:(bif b then t else []).length <=t.length:=by cases b<;>simp
def aEf(h:WS (zO O) s)(lv:s.f.kind≠16)(hR:RF O.length s.f)(hL:(ck (zO O) s.f).length <=mT):HQ O W s:=by
 obtain⟨rN,rO,rT,rP,ry,⟨rS,pw⟩,rE,rI,UX,aLQ⟩:=hR;have aN:=kr rN;have aO:=kr rO;have aT:=kr rT;have aP:=kr rP;have ay:=kr ry;have aS:=Bi rS;intro k;cases h with
 |null=>exact bh pB<|bp<|aH
 |set p a hp ha=>
  change (Lib.itoa 0).length <=20 at aN
  change (Lib.itoa 0).length <=20 at aO
  change (Lib.itoa 0).length <=20 at aT
  change (Lib.itoa 0).length <=20 at aP
  change (Lib.itoa 0).length <=20 at ay
  change (dL []).length <=21*([]:bQ).length at aS
  change ([]:bQ).length <=mx at pw
  have hx:ck (zO O) ⟨2,0,0,0,0,0,false,false,false,false,false,0,[a],[],[p],[],[]⟩=fS (zO O) p++[32,58,61,32]++bj (zO O) a:=rZ
  change (ck (zO O) ⟨2,0,0,0,0,0,false,false,false,false,false,0,[a],[],[p],[],[]⟩).length <=mT at hL
  change Ev oU _ (0,[.str (bs (ck (zO O) ⟨2,0,0,0,0,0,false,false,false,false,false,0,[a],[],[p],[],[]⟩)),_,_])
  rw [hx]at hL⊢;have ep:=MQ (W:=W) hp (UX p (my.2 rfl)) (hZ);have ea:=uZ (W:=W) ha (rE a (Ge)) (hZ);exact bh pB<|av<|bp<|aA rfl<|ah (ep 1)<|E.cat (a:=fS (zO O) p) (b:=[32,58,61,32]) (hZ) rfl rfl<|aA rfl<|ah (ea 1)<|E.cat (a:=fS (zO O) p++[32,58,61,32]) (b:=bj (zO O) a) (hZ) rfl rfl<|aH
 |seq L h=>exact bh pB<|av<|av<|bp<|aH
 |ite a _ _ ha _ _=>
  change (Lib.itoa 0).length <=20 at aN
  change (Lib.itoa 0).length <=20 at aO
  change (Lib.itoa 0).length <=20 at aT
  change (Lib.itoa 0).length <=20 at aP
  change (Lib.itoa 0).length <=20 at ay
  change (dL []).length <=21*([]:bQ).length at aS
  change ([]:bQ).length <=mx at pw
  have hx:ck (zO O) ⟨4,0,0,0,0,0,false,false,false,false,false,0,[a],[],[],[],[]⟩=[105,102,32]++bj (zO O) a:=rZ
  change (ck (zO O) ⟨4,0,0,0,0,0,false,false,false,false,false,0,[a],[],[],[],[]⟩).length <=mT at hL
  change Ev oU _ (0,[.str (bs (ck (zO O) ⟨4,0,0,0,0,0,false,false,false,false,false,0,[a],[],[],[],[]⟩)),_,_])
  rw [hx]at hL⊢;have ea:=uZ (W:=W) ha (rE a (Ge)) (hZ);exact bh pB<|av<|av<|av<|bp<|aA rfl<|ah (ea 1)<|E.cat (a:=[105,102,32]) (b:=bj (zO O) a) (hZ) rfl rfl<|aH
 |Kj a _ ha _=>
  change (Lib.itoa 0).length <=20 at aN
  change (Lib.itoa 0).length <=20 at aO
  change (Lib.itoa 0).length <=20 at aT
  change (Lib.itoa 0).length <=20 at aP
  change (Lib.itoa 0).length <=20 at ay
  change (dL []).length <=21*([]:bQ).length at aS
  change ([]:bQ).length <=mx at pw
  have hx:ck (zO O) ⟨5,0,0,0,0,0,false,false,false,false,false,0,[a],[],[],[],[]⟩=[119,104,105,108,101,32]++bj (zO O) a:=rZ
  change (ck (zO O) ⟨5,0,0,0,0,0,false,false,false,false,false,0,[a],[],[],[],[]⟩).length <=mT at hL
  change Ev oU _ (0,[.str (bs (ck (zO O) ⟨5,0,0,0,0,0,false,false,false,false,false,0,[a],[],[],[],[]⟩)),_,_])
  rw [hx]at hL⊢;have ea:=uZ (W:=W) ha (rE a (Ge)) (hZ);exact bh pB<|av<|av<|av<|av<|bp<|aA rfl<|ah (ea 1)<|E.cat (a:=[119,104,105,108,101,32]) (b:=bj (zO O) a) (hZ) rfl rfl<|aH
 |fr o rev a b _ ha hb _=>
  change (Lib.itoa 0).length <=20 at aN
  change (Lib.itoa o).length <=20 at aO
  change (Lib.itoa 0).length <=20 at aT
  change (Lib.itoa 0).length <=20 at aP
  change (Lib.itoa 0).length <=20 at ay
  change (dL []).length <=21*([]:bQ).length at aS
  change ([]:bQ).length <=mx at pw
  have hx:ck (zO O) ⟨6,0,o,0,0,0,false,rev,false,false,false,0,[a,b],[],[],[],[]⟩=[102,111,114,32,111]++Lib.itoa o++[32,105,110,32]++(bif rev then [114,101,118,101,114,115,101,32]else [])++bj (zO O) a++[32,46,46,32]++bj (zO O) b:=rZ
  change (ck (zO O) ⟨6,0,o,0,0,0,false,rev,false,false,false,0,[a,b],[],[],[],[]⟩).length <=mT at hL
  change Ev oU _ (0,[.str (bs (ck (zO O) ⟨6,0,o,0,0,0,false,rev,false,false,false,0,[a,b],[],[],[],[]⟩)),_,_])
  rw [hx]at hL⊢;have ea:=uZ (W:=W) ha (rE a (Ge)) (hZ);have eb:=uZ (W:=W) hb (rE b (Ge)) (hZ);exact bh pB<|av<|av<|av<|av<|av<|bp<|ah (jW rO)<|E.cat (a:=[102,111,114,32,111]) (b:=Lib.itoa o) (hZ) rfl rfl<|E.cat (a:=[102,111,114,32,111]++Lib.itoa o) (b:=[32,105,110,32]) (hZ) rfl rfl<|ah (Dr (b:=rev) (t:=[114,101,118,101,114,115,101,32]))<|E.cat (a:=[102,111,114,32,111]++Lib.itoa o++[32,105,110,32]) (b:=(bif rev then [114,101,118,101,114,115,101,32]else [])) (hZ) rfl rfl<|aA rfl<|ah (ea 1)<|E.cat (a:=[102,111,114,32,111]++Lib.itoa o++[32,105,110,32]++(bif rev then [114,101,118,101,114,115,101,32]else [])) (b:=bj (zO O) a) (hZ) rfl rfl<|E.cat (a:=[102,111,114,32,111]++Lib.itoa o++[32,105,110,32]++(bif rev then [114,101,118,101,114,115,101,32]else [])++bj (zO O) a) (b:=[32,46,46,32]) (hZ) rfl rfl<|aA rfl<|ah (eb 1)<|E.cat (a:=[102,111,114,32,111]++Lib.itoa o++[32,105,110,32]++(bif rev then [114,101,118,101,114,115,101,32]else [])++bj (zO O) a++[32,46,46,32]) (b:=bj (zO O) b) (hZ) rfl rfl<|aH
 |mark n _ _=>
  change (Lib.itoa n).length <=20 at aN
  change (Lib.itoa 0).length <=20 at aO
  change (Lib.itoa 0).length <=20 at aT
  change (Lib.itoa 0).length <=20 at aP
  change (Lib.itoa 0).length <=20 at ay
  change (dL []).length <=21*([]:bQ).length at aS
  change ([]:bQ).length <=mx at pw
  have hx:ck (zO O) ⟨7,n,0,0,0,0,false,false,false,false,false,0,[],[],[],[],[]⟩=[109,97,114,107,32]++Lib.itoa n:=rZ
  change (ck (zO O) ⟨7,n,0,0,0,0,false,false,false,false,false,0,[],[],[],[],[]⟩).length <=mT at hL
  change Ev oU _ (0,[.str (bs (ck (zO O) ⟨7,n,0,0,0,0,false,false,false,false,false,0,[],[],[],[],[]⟩)),_,_])
  rw [hx]at hL⊢;exact bh pB<|av<|av<|av<|av<|av<|av<|bp<|ah (jW rN)<|E.cat (a:=[109,97,114,107,32]) (b:=Lib.itoa n) (hZ) rfl rfl<|aH
 |leave n=>
  change (Lib.itoa n).length <=20 at aN
  change (Lib.itoa 0).length <=20 at aO
  change (Lib.itoa 0).length <=20 at aT
  change (Lib.itoa 0).length <=20 at aP
  change (Lib.itoa 0).length <=20 at ay
  change (dL []).length <=21*([]:bQ).length at aS
  change ([]:bQ).length <=mx at pw
  have hx:ck (zO O) ⟨8,n,0,0,0,0,false,false,false,false,false,0,[],[],[],[],[]⟩=[108,101,97,118,101,32]++Lib.itoa n:=rZ
  change (ck (zO O) ⟨8,n,0,0,0,0,false,false,false,false,false,0,[],[],[],[],[]⟩).length <=mT at hL
  change Ev oU _ (0,[.str (bs (ck (zO O) ⟨8,n,0,0,0,0,false,false,false,false,false,0,[],[],[],[],[]⟩)),_,_])
  rw [hx]at hL⊢;exact bh pB<|av<|av<|av<|av<|av<|av<|av<|bp<|ah (jW rN)<|E.cat (a:=[108,101,97,118,101,32]) (b:=Lib.itoa n) (hZ) rfl rfl<|aH
 |scope Ts a D H _ _ _ _=>
  change (Lib.itoa 0).length <=20 at aN
  change (Lib.itoa 0).length <=20 at aO
  change (Lib.itoa 0).length <=20 at aT
  change (Lib.itoa 0).length <=20 at aP
  change (Lib.itoa 0).length <=20 at ay
  change (dL Ts).length <=21*(Ts:bQ).length at aS
  change (Ts:bQ).length <=mx at pw
  have hx:ck (zO O) ⟨9,0,0,0,0,0,false,false,false,false,false,0,[],[],[],[],Ts⟩=[115,99,111,112,101]++(bif decide (0<ln (ints Ts))then [32,116,97,115,107,115]++dL Ts else []):=by rw [aEb];cases Ts<;>simp [ck]
  change (ck (zO O) ⟨9,0,0,0,0,0,false,false,false,false,false,0,[],[],[],[],Ts⟩).length <=mT at hL
  change Ev oU _ (0,[.str (bs (ck (zO O) ⟨9,0,0,0,0,0,false,false,false,false,false,0,[],[],[],[],Ts⟩)),_,_])
  rw [hx]at hL⊢;have hw:= @ZA (decide (0<ln (ints Ts))) ([32,116,97,115,107,115]++dL Ts);exact bh pB<|av<|av<|av<|av<|av<|av<|av<|av<|bp<|ah (DF pw rS)<|E.cat (a:=[32,116,97,115,107,115]) (b:=dL Ts) (hZ) rfl rfl<|ah (Dr (b:=decide (0<ln (ints Ts))) (t:=[32,116,97,115,107,115]++dL Ts))<|E.cat (a:=[115,99,111,112,101]) (b:=(bif decide (0<ln (ints Ts))then [32,116,97,115,107,115]++dL Ts else [])) (hZ) rfl rfl<|aH
 |raise n h0=>
  change (Lib.itoa n).length <=20 at aN
  change (Lib.itoa 0).length <=20 at aO
  change (Lib.itoa 0).length <=20 at aT
  change (Lib.itoa 0).length <=20 at aP
  change (Lib.itoa 0).length <=20 at ay
  change (dL []).length <=21*([]:bQ).length at aS
  change ([]:bQ).length <=mx at pw
  have hx:ck (zO O) ⟨10,n,0,0,0,0,false,false,false,false,false,0,[],[],[],[],[]⟩=[114,97,105,115,101]++(bif decide (0<n)then [32]++Lib.itoa n else []):=rZ
  change (ck (zO O) ⟨10,n,0,0,0,0,false,false,false,false,false,0,[],[],[],[],[]⟩).length <=mT at hL
  change Ev oU _ (0,[.str (bs (ck (zO O) ⟨10,n,0,0,0,0,false,false,false,false,false,0,[],[],[],[],[]⟩)),_,_])
  rw [hx]at hL⊢;have hw:= @ZA (decide (0<n)) ([32]++Lib.itoa n);exact bh pB<|av<|av<|av<|av<|av<|av<|av<|av<|av<|bp<|ah (jW rN)<|E.cat (a:=[32]) (b:=Lib.itoa n) (hZ) rfl rfl<|ah (Dr (b:=decide (0<n)) (t:=[32]++Lib.itoa n))<|E.cat (a:=[114,97,105,115,101]) (b:=(bif decide (0<n)then [32]++Lib.itoa n else [])) (hZ) rfl rfl<|aH
 |put a ha=>
  change (Lib.itoa 0).length <=20 at aN
  change (Lib.itoa 0).length <=20 at aO
  change (Lib.itoa 0).length <=20 at aT
  change (Lib.itoa 0).length <=20 at aP
  change (Lib.itoa 0).length <=20 at ay
  change (dL []).length <=21*([]:bQ).length at aS
  change ([]:bQ).length <=mx at pw
  have hx:ck (zO O) ⟨11,0,0,0,0,0,false,false,false,false,false,0,[a],[],[],[],[]⟩=[112,117,116,32]++bj (zO O) a:=rZ
  change (ck (zO O) ⟨11,0,0,0,0,0,false,false,false,false,false,0,[a],[],[],[],[]⟩).length <=mT at hL
  change Ev oU _ (0,[.str (bs (ck (zO O) ⟨11,0,0,0,0,0,false,false,false,false,false,0,[a],[],[],[],[]⟩)),_,_])
  rw [hx]at hL⊢;have ea:=uZ (W:=W) ha (rE a (Ge)) (hZ);exact bh pB<|av<|av<|av<|av<|av<|av<|av<|av<|av<|av<|bp<|aA rfl<|ah (ea 1)<|E.cat (a:=[112,117,116,32]) (b:=bj (zO O) a) (hZ) rfl rfl<|aH
 |get p hp=>
  change (Lib.itoa 0).length <=20 at aN
  change (Lib.itoa 0).length <=20 at aO
  change (Lib.itoa 0).length <=20 at aT
  change (Lib.itoa 0).length <=20 at aP
  change (Lib.itoa 0).length <=20 at ay
  change (dL []).length <=21*([]:bQ).length at aS
  change ([]:bQ).length <=mx at pw
  have hx:ck (zO O) ⟨12,0,0,0,0,0,false,false,false,false,false,0,[],[],[p],[],[]⟩=[103,101,116,32]++fS (zO O) p:=rZ
  change (ck (zO O) ⟨12,0,0,0,0,0,false,false,false,false,false,0,[],[],[p],[],[]⟩).length <=mT at hL
  change Ev oU _ (0,[.str (bs (ck (zO O) ⟨12,0,0,0,0,0,false,false,false,false,false,0,[],[],[p],[],[]⟩)),_,_])
  rw [hx]at hL⊢;have ep:=MQ (W:=W) hp (UX p (my.2 rfl)) (hZ);exact bh pB<|av<|av<|av<|av<|av<|av<|av<|av<|av<|av<|av<|bp<|aA rfl<|ah (ep 1)<|E.cat (a:=[103,101,116,32]) (b:=fS (zO O) p) (hZ) rfl rfl<|aH
 |clock p hp=>
  change (Lib.itoa 0).length <=20 at aN
  change (Lib.itoa 0).length <=20 at aO
  change (Lib.itoa 0).length <=20 at aT
  change (Lib.itoa 0).length <=20 at aP
  change (Lib.itoa 0).length <=20 at ay
  change (dL []).length <=21*([]:bQ).length at aS
  change ([]:bQ).length <=mx at pw
  have hx:ck (zO O) ⟨13,0,0,0,0,0,false,false,false,false,false,0,[],[],[p],[],[]⟩=[99,108,111,99,107,32]++fS (zO O) p:=rZ
  change (ck (zO O) ⟨13,0,0,0,0,0,false,false,false,false,false,0,[],[],[p],[],[]⟩).length <=mT at hL
  change Ev oU _ (0,[.str (bs (ck (zO O) ⟨13,0,0,0,0,0,false,false,false,false,false,0,[],[],[p],[],[]⟩)),_,_])
  rw [hx]at hL⊢;have ep:=MQ (W:=W) hp (UX p (my.2 rfl)) (hZ);exact bh pB<|av<|av<|av<|av<|av<|av<|av<|av<|av<|av<|av<|av<|bp<|aA rfl<|ah (ep 1)<|E.cat (a:=[99,108,111,99,107,32]) (b:=fS (zO O) p) (hZ) rfl rfl<|aH
 |count p n q b hp h0=>
  change (Lib.itoa 0).length <=20 at aN
  change (Lib.itoa 0).length <=20 at aO
  change (Lib.itoa 0).length <=20 at aT
  change (Lib.itoa q).length <=20 at aP
  change (Lib.itoa n).length <=20 at ay
  change (dL []).length <=21*([]:bQ).length at aS
  change ([]:bQ).length <=mx at pw
  have hx:ck (zO O) ⟨14,0,0,0,q,n,b,false,false,false,false,0,[],[],[p],[],[]⟩=[99,111,117,110,116,32]++fS (zO O) p++[32]++Lib.itoa n++(bif b then [32,111,102,32]++Lib.itoa q else []):=rZ
  change (ck (zO O) ⟨14,0,0,0,q,n,b,false,false,false,false,0,[],[],[p],[],[]⟩).length <=mT at hL
  change Ev oU _ (0,[.str (bs (ck (zO O) ⟨14,0,0,0,q,n,b,false,false,false,false,0,[],[],[p],[],[]⟩)),_,_])
  rw [hx]at hL⊢;have ep:=MQ (W:=W) hp (UX p (my.2 rfl)) (hZ);have hw:= @ZA (b) ([32,111,102,32]++Lib.itoa q);exact bh pB<|av<|av<|av<|av<|av<|av<|av<|av<|av<|av<|av<|av<|av<|bp<|aA rfl<|ah (ep 1)<|E.cat (a:=[99,111,117,110,116,32]) (b:=fS (zO O) p) (hZ) rfl rfl<|E.cat (a:=[99,111,117,110,116,32]++fS (zO O) p) (b:=[32]) (hZ) rfl rfl<|ah (jW ry)<|E.cat (a:=[99,111,117,110,116,32]++fS (zO O) p++[32]) (b:=Lib.itoa n) (hZ) rfl rfl<|ah (jW rP)<|E.cat (a:=[32,111,102,32]) (b:=Lib.itoa q) (hZ) rfl rfl<|ah (Dr (b:=b) (t:=[32,111,102,32]++Lib.itoa q))<|E.cat (a:=[99,111,117,110,116,32]++fS (zO O) p++[32]++Lib.itoa n) (b:=(bif b then [32,111,102,32]++Lib.itoa q else [])) (hZ) rfl rfl<|aH
 |NG a b ha=>
  change (Lib.itoa 0).length <=20 at aN
  change (Lib.itoa 0).length <=20 at aO
  change (Lib.itoa 0).length <=20 at aT
  change (Lib.itoa 0).length <=20 at aP
  change (Lib.itoa 0).length <=20 at ay
  change (dL []).length <=21*([]:bQ).length at aS
  change ([]:bQ).length <=mx at pw
  have hx:ck (zO O) ⟨15,0,0,0,0,0,false,false,b,false,false,0,[a],[],[],[],[]⟩=[100,101,108,97,121,32]++(bif b then [117,110,116,105,108,32]else [])++bj (zO O) a:=rZ
  change (ck (zO O) ⟨15,0,0,0,0,0,false,false,b,false,false,0,[a],[],[],[],[]⟩).length <=mT at hL
  change Ev oU _ (0,[.str (bs (ck (zO O) ⟨15,0,0,0,0,0,false,false,b,false,false,0,[a],[],[],[],[]⟩)),_,_])
  rw [hx]at hL⊢;have ea:=uZ (W:=W) ha (rE a (Ge)) (hZ);exact bh pB<|av<|av<|av<|av<|av<|av<|av<|av<|av<|av<|av<|av<|av<|av<|bp<|ah (Dr (b:=b) (t:=[117,110,116,105,108,32]))<|E.cat (a:=[100,101,108,97,121,32]) (b:=(bif b then [117,110,116,105,108,32]else [])) (hZ) rfl rfl<|aA rfl<|ah (ea 1)<|E.cat (a:=[100,101,108,97,121,32]++(bif b then [117,110,116,105,108,32]else [])) (b:=bj (zO O) a) (hZ) rfl rfl<|aH
 |call=>exact absurd rfl lv
 |GF q n m E1 a b c hm _ _ _ _=>
  change (Lib.itoa 0).length <=20 at aN
  change (Lib.itoa 0).length <=20 at aO
  change (Lib.itoa 0).length <=20 at aT
  change (Lib.itoa q).length <=20 at aP
  change (Lib.itoa n).length <=20 at ay
  change (dL []).length <=21*([]:bQ).length at aS
  change ([]:bQ).length <=mx at pw
  have hx:ck (zO O) ⟨17,0,0,0,q,n,false,false,false,false,false,m,E1,[],[],[],[]⟩=[112,101,110,116,114,121,32]++Lib.itoa q++[46]++Lib.itoa n++nC (zO O) ⟨17,0,0,0,q,n,false,false,false,false,false,m,E1,[],[],[],[]⟩:=rZ
  change (ck (zO O) ⟨17,0,0,0,q,n,false,false,false,false,false,m,E1,[],[],[],[]⟩).length <=mT at hL
  change Ev oU _ (0,[.str (bs (ck (zO O) ⟨17,0,0,0,q,n,false,false,false,false,false,m,E1,[],[],[],[]⟩)),_,_])
  rw [hx]at hL⊢;have em:=amx (W:=W) (s:= .mk ⟨17,0,0,0,q,n,false,false,false,false,false,m,E1,[],[],[],[]⟩ [a,b,c] [] [] []) hm rE (by simp only [CS.f,mT,mx,cw,fk,gD]at hL aN aO aT aP ay aS pw⊢;omega);exact bh pB<|av<|av<|av<|av<|av<|av<|av<|av<|av<|av<|av<|av<|av<|av<|av<|av<|bp<|ah (jW rP)<|E.cat (a:=[112,101,110,116,114,121,32]) (b:=Lib.itoa q) (hZ) rfl rfl<|E.cat (a:=[112,101,110,116,114,121,32]++Lib.itoa q) (b:=[46]) (hZ) rfl rfl<|ah (jW ry)<|E.cat (a:=[112,101,110,116,114,121,32]++Lib.itoa q++[46]) (b:=Lib.itoa n) (hZ) rfl rfl<|ah (em 1)<|E.cat (a:=[112,101,110,116,114,121,32]++Lib.itoa q++[46]++Lib.itoa n) (b:=nC (zO O) ⟨17,0,0,0,q,n,false,false,false,false,false,m,E1,[],[],[],[]⟩) (hZ) rfl rfl<|aH
 |acc n _ _ _ _=>
  change (Lib.itoa 0).length <=20 at aN
  change (Lib.itoa 0).length <=20 at aO
  change (Lib.itoa 0).length <=20 at aT
  change (Lib.itoa 0).length <=20 at aP
  change (Lib.itoa n).length <=20 at ay
  change (dL []).length <=21*([]:bQ).length at aS
  change ([]:bQ).length <=mx at pw
  have hx:ck (zO O) ⟨18,0,0,0,0,n,false,false,false,false,false,0,[],[],[],[],[]⟩=[97,99,99,101,112,116,32]++Lib.itoa n:=rZ
  change (ck (zO O) ⟨18,0,0,0,0,n,false,false,false,false,false,0,[],[],[],[],[]⟩).length <=mT at hL
  change Ev oU _ (0,[.str (bs (ck (zO O) ⟨18,0,0,0,0,n,false,false,false,false,false,0,[],[],[],[],[]⟩)),_,_])
  rw [hx]at hL⊢;exact bh pB<|av<|av<|av<|av<|av<|av<|av<|av<|av<|av<|av<|av<|av<|av<|av<|av<|av<|bp<|ah (jW ry)<|E.cat (a:=[97,99,99,101,112,116,32]) (b:=Lib.itoa n) (hZ) rfl rfl<|aH
 |bC b a A _ _ _ _ _=>
  change (Lib.itoa 0).length <=20 at aN
  change (Lib.itoa 0).length <=20 at aO
  change (Lib.itoa 0).length <=20 at aT
  change (Lib.itoa 0).length <=20 at aP
  change (Lib.itoa 0).length <=20 at ay
  change (dL []).length <=21*([]:bQ).length at aS
  change ([]:bQ).length <=mx at pw
  have hx:ck (zO O) ⟨19,0,0,0,0,0,false,false,false,b,false,0,[],[],[],[],[]⟩=[115,101,108,101,99,116]++(bif b then [32,101,108,115,101]else []):=rZ
  change (ck (zO O) ⟨19,0,0,0,0,0,false,false,false,b,false,0,[],[],[],[],[]⟩).length <=mT at hL
  change Ev oU _ (0,[.str (bs (ck (zO O) ⟨19,0,0,0,0,0,false,false,false,b,false,0,[],[],[],[],[]⟩)),_,_])
  rw [hx]at hL⊢;exact bh pB<|av<|av<|av<|av<|av<|av<|av<|av<|av<|av<|av<|av<|av<|av<|av<|av<|av<|av<|bp<|ah (Dr (b:=b) (t:=[32,101,108,115,101]))<|E.cat (a:=[115,101,108,101,99,116]) (b:=(bif b then [32,101,108,115,101]else [])) (hZ) rfl rfl<|aH
 |lock q _ _=>
  change (Lib.itoa 0).length <=20 at aN
  change (Lib.itoa 0).length <=20 at aO
  change (Lib.itoa 0).length <=20 at aT
  change (Lib.itoa q).length <=20 at aP
  change (Lib.itoa 0).length <=20 at ay
  change (dL []).length <=21*([]:bQ).length at aS
  change ([]:bQ).length <=mx at pw
  have hx:ck (zO O) ⟨20,0,0,0,q,0,false,false,false,false,false,0,[],[],[],[],[]⟩=[108,111,99,107,101,100,32]++Lib.itoa q:=rZ
  change (ck (zO O) ⟨20,0,0,0,q,0,false,false,false,false,false,0,[],[],[],[],[]⟩).length <=mT at hL
  change Ev oU _ (0,[.str (bs (ck (zO O) ⟨20,0,0,0,q,0,false,false,false,false,false,0,[],[],[],[],[]⟩)),_,_])
  rw [hx]at hL⊢;exact bh pB<|av<|av<|av<|av<|av<|av<|av<|av<|av<|av<|av<|av<|av<|av<|av<|av<|av<|av<|av<|bp<|ah (jW rP)<|E.cat (a:=[108,111,99,107,101,100,32]) (b:=Lib.itoa q) (hZ) rfl rfl<|aH
 |B6 t n b=>
  change (Lib.itoa 0).length <=20 at aN
  change (Lib.itoa 0).length <=20 at aO
  change (Lib.itoa t).length <=20 at aT
  change (Lib.itoa 0).length <=20 at aP
  change (Lib.itoa n).length <=20 at ay
  change (dL []).length <=21*([]:bQ).length at aS
  change ([]:bQ).length <=mx at pw
  have hx:ck (zO O) ⟨21,0,0,t,0,n,false,false,false,false,b,0,[],[],[],[],[]⟩=[114,101,113,117,101,117,101,32]++Lib.itoa t++[46]++Lib.itoa n++(bif b then [32,97,98,111,114,116]else []):=rZ
  change (ck (zO O) ⟨21,0,0,t,0,n,false,false,false,false,b,0,[],[],[],[],[]⟩).length <=mT at hL
  change Ev oU _ (0,[.str (bs (ck (zO O) ⟨21,0,0,t,0,n,false,false,false,false,b,0,[],[],[],[],[]⟩)),_,_])
  rw [hx]at hL⊢;exact bh pB<|av<|av<|av<|av<|av<|av<|av<|av<|av<|av<|av<|av<|av<|av<|av<|av<|av<|av<|av<|av<|bp<|ah (jW rT)<|E.cat (a:=[114,101,113,117,101,117,101,32]) (b:=Lib.itoa t) (hZ) rfl rfl<|E.cat (a:=[114,101,113,117,101,117,101,32]++Lib.itoa t) (b:=[46]) (hZ) rfl rfl<|ah (jW ry)<|E.cat (a:=[114,101,113,117,101,117,101,32]++Lib.itoa t++[46]) (b:=Lib.itoa n) (hZ) rfl rfl<|ah (Dr (b:=b) (t:=[32,97,98,111,114,116]))<|E.cat (a:=[114,101,113,117,101,117,101,32]++Lib.itoa t++[46]++Lib.itoa n) (b:=(bif b then [32,97,98,111,114,116]else [])) (hZ) rfl rfl<|aH
 |jT Ts=>
  change (Lib.itoa 0).length <=20 at aN
  change (Lib.itoa 0).length <=20 at aO
  change (Lib.itoa 0).length <=20 at aT
  change (Lib.itoa 0).length <=20 at aP
  change (Lib.itoa 0).length <=20 at ay
  change (dL Ts).length <=21*(Ts:bQ).length at aS
  change (Ts:bQ).length <=mx at pw
  have hx:ck (zO O) ⟨22,0,0,0,0,0,false,false,false,false,false,0,[],[],[],[],Ts⟩=[97,98,111,114,116]++dL Ts:=rZ
  change (ck (zO O) ⟨22,0,0,0,0,0,false,false,false,false,false,0,[],[],[],[],Ts⟩).length <=mT at hL
  change Ev oU _ (0,[.str (bs (ck (zO O) ⟨22,0,0,0,0,0,false,false,false,false,false,0,[],[],[],[],Ts⟩)),_,_])
  rw [hx]at hL⊢;exact bh pB<|av<|av<|av<|av<|av<|av<|av<|av<|av<|av<|av<|av<|av<|av<|av<|av<|av<|av<|av<|av<|av<|ah (DF pw rS)<|E.cat (a:=[97,98,111,114,116]) (b:=dL Ts) (hZ) rfl rfl<|aH
end
end Go.Proofs.B
namespace Go.aj
def yL{p:Prop}(h:p:=by simp only [mT,mx,cw,fk,gD]at hL a1 a2⊢;omega):p:=h
def akp{p:Prop}(h:p:=by
 simp only [mx]at hl;simp only [kQ,fY,sB];omega):p:=h
def ajK{p:Prop}(h:p:=by rw [Js hi,kQ,tj,tj];rfl):p:=h
end Go.aj
namespace Go.aj
def Zn:=@List.mem_map_of_mem
end Go.aj
namespace Go.Proofs.B
open Go Go.aj T
section
variable{O:List OB}{W:aY}
def Zz:∀{l:List (List UInt8)} {x:List UInt8},x∈l->x.length<=(jg l).length
 | [y],x,h=>by rw [my.1 h];exact iZ _
 |y::z::l,x,h=>by
  have ih:=λh=>Zz (l:=z::l) (x:=x) h;simp only [jg,cw,fk];rcases fV.1 h with rfl|h
  ·omega
  ·have:=ih h;omega
def apE{l:List CE}(hl:l.length<=mx)(h:∀e∈l,WE (zO O) e/\RE O.length e/\(bj (zO O) e).length <=mT)(k:Nat):
 cq Lk [bR (l.map aZ),iI (ln (l.map aZ)),iI 0,bA k (O.map cg),aX W,e7 ([]:aY)] (0,[bA 1 (O.map cg),aX W,e7 (kQ (l.map (bj (zO O))))]):=by
 have key:=ku (P:=λi=>∀k,cq Lk [bR (l.map aZ),iI (ln (l.map aZ)),iI (i:Int),bA k (O.map cg),aX W,e7 (kQ ((l.take i).map (bj (zO O))))] (0,[bA 1 (O.map cg),aX W,e7 (kQ (l.map (bj (zO O))))])) (m:=l.length)
  (λk=>bF aej (az eo (aq (Dp))))
  λi hi ih k=>bF aej<|bE (dz hi)<|aA (cb hi)<|by
   rw [dk hi,ix hi hl];obtain⟨U,h2,h3⟩:=h _ (ei hi);have e:kQ ((l.take (i+1)).map (bj (zO O)))=kQ ((l.take i).map (bj (zO O)))++[[.str (bs (bj (zO O) l[i]))]]:=ajK;have ih:=ih 1;rw [e]at ih;refine ah (uZ U h2 h3 1) (aA (vq ?_) ih);show((kQ ((l.take i).map (bj (zO O)))).length +1)*16<=140737488355328;exact akp
 simpa using key k
def apP{l:List PL}(hl:l.length<=mx)(h:∀e∈l,WP (zO O) e/\RP O.length e/\(fS (zO O) e).length <=mT)(k:Nat):
 cq Lj [dj (l.map cN),iI (ln (l.map cN)),iI 0,bA k (O.map cg),aX W,e7 ([]:aY)] (0,[bA 1 (O.map cg),aX W,e7 (kQ (l.map (fS (zO O))))]):=by
 have key:=ku (P:=λi=>∀k,cq Lj [dj (l.map cN),iI (ln (l.map cN)),iI (i:Int),bA k (O.map cg),aX W,e7 (kQ ((l.take i).map (fS (zO O))))] (0,[bA 1 (O.map cg),aX W,e7 (kQ (l.map (fS (zO O))))])) (m:=l.length)
  (λk=>bF aei (az eo (aq (Dp))))
  λi hi ih k=>bF aei<|bE (dz hi)<|aA (cb hi)<|by
   rw [dk hi,ix hi hl];obtain⟨U,h2,h3⟩:=h _ (ei hi);have e:kQ ((l.take (i+1)).map (fS (zO O)))=kQ ((l.take i).map (fS (zO O)))++[[.str (bs (fS (zO O) l[i]))]]:=ajK;have ih:=ih 1;rw [e]at ih;refine ah (MQ U h2 h3 1) (aA (vq ?_) ih);show((kQ ((l.take i).map (fS (zO O)))).length +1)*16<=140737488355328;exact akp
 simpa using key k
def acd{t n m:Int}{E1 I:List CE}{Q:List PL}{L:List CS}(hm:WM (zO O) m E1)(hI:∀e∈I,WE (zO O) e)(hQ:∀p∈Q,WP (zO O) p)(hR:RF O.length ⟨16,0,0,t,0,n,false,false,false,false,false,m,E1,I,[],Q,[]⟩)(hL:(ck (zO O) ⟨16,0,0,t,0,n,false,false,false,false,false,m,E1,I,[],Q,[]⟩).length <=mT):HQ O W (.mk ⟨16,0,0,t,0,n,false,false,false,false,false,m,E1,I,[],Q,[]⟩ L [] [] []):=by
 obtain⟨rN,rO,rT,rP,ry,_,rE,⟨rI,rI2⟩,_,⟨rQ,rQ2⟩⟩:=hR;have a1:=kr rT;have a2:=kr ry;simp only at a1 a2 rI2 rQ2;have exm:jQ (zO O) I=I.map (bj (zO O)):=yx _ _;have hx:ck (zO O) ⟨16,0,0,t,0,n,false,false,false,false,false,m,E1,I,[],Q,[]⟩=[99,97,108,108,32]++Lib.itoa t++[46]++Lib.itoa n++[32,40]++jg (I.map (bj (zO O)))++[32,45,62,32]++jg (Q.map (fS (zO O)))++[41]++nC (zO O) ⟨16,0,0,t,0,n,false,false,false,false,false,m,E1,I,[],Q,[]⟩:=by simp [ck,exm]
 intro k
 change Ev oU _ (0,[.str (bs (ck (zO O) ⟨16,0,0,t,0,n,false,false,false,false,false,m,E1,I,[],Q,[]⟩)),_,_])
 rw [hx]at hL⊢;replace hI:∀e∈I,WE (zO O) e/\RE O.length e/\(bj (zO O) e).length <=mT:=λe he=>⟨hI e he,rI e he,by
  have:=Zz (Zn (f:=bj (zO O)) he);simp only [mT,cw,fk,gD]at hL⊢;omega⟩
 replace hQ:∀p∈Q,WP (zO O) p/\RP O.length p/\(fS (zO O) p).length <=mT:=λp hp=>⟨hQ p hp,rQ p hp,by
  have:=Zz (Zn (f:=fS (zO O)) hp);simp only [mT,cw,fk,gD]at hL⊢;omega⟩
 have em:=amx (W:=W) (s:= .mk ⟨16,0,0,t,0,n,false,false,false,false,false,m,E1,I,[],Q,[]⟩ L [] [] []) hm rE (by simp only [CS.f,mT,cw,fk,gD]at hL⊢;omega);exact bh pB<|av<|av<|av<|av<|av<|av<|av<|av<|av<|av<|av<|av<|av<|av<|av<|bp<|ah (cL arc (ah (apE rI2 hI 1).diag aH))<|ah (apP rQ2 hQ 1).diag <|ah (jW rT)<|E.cat (a:=[99,97,108,108,32]) (b:=Lib.itoa t) (yL) rfl rfl<|E.cat (a:=[99,97,108,108,32]++Lib.itoa t) (b:=[46]) (yL) rfl rfl<|ah (jW ry)<|E.cat (a:=[99,97,108,108,32]++Lib.itoa t++[46]) (b:=Lib.itoa n) (yL) rfl rfl<|E.cat (a:=[99,97,108,108,32]++Lib.itoa t++[46]++Lib.itoa n) (b:=[32,40]) (yL) rfl rfl<|ah (abP (l:=I.map (bj (zO O))) (by rw [fY];exact rI2) (yL))<|E.cat (a:=[99,97,108,108,32]++Lib.itoa t++[46]++Lib.itoa n++[32,40]) (b:=jg (I.map (bj (zO O)))) (yL) rfl rfl<|E.cat (a:=[99,97,108,108,32]++Lib.itoa t++[46]++Lib.itoa n++[32,40]++jg (I.map (bj (zO O)))) (b:=[32,45,62,32]) (yL) rfl rfl<|ah (abP (l:=Q.map (fS (zO O))) (by rw [fY];exact rQ2) (yL))<|E.cat (a:=[99,97,108,108,32]++Lib.itoa t++[46]++Lib.itoa n++[32,40]++jg (I.map (bj (zO O)))++[32,45,62,32]) (b:=jg (Q.map (fS (zO O)))) (yL) rfl rfl<|E.cat (a:=[99,97,108,108,32]++Lib.itoa t++[46]++Lib.itoa n++[32,40]++jg (I.map (bj (zO O)))++[32,45,62,32]++jg (Q.map (fS (zO O)))) (b:=[41]) (yL) rfl rfl<|ah (em 1)<|E.cat (a:=[99,97,108,108,32]++Lib.itoa t++[46]++Lib.itoa n++[32,40]++jg (I.map (bj (zO O)))++[32,45,62,32]++jg (Q.map (fS (zO O)))++[41]) (b:=nC (zO O) ⟨16,0,0,t,0,n,false,false,false,false,false,m,E1,I,[],Q,[]⟩) (yL) rfl rfl<|aH
end
section
variable{e g:CE}{a b:CS}{n:Int}{E1:List CE}{O:List OB}{W:aY}
abbrev GX(O:List OB)(W:aY)(x:CA)(t:List UInt8):Prop:=∀k,Ev Xf [J (dY x),bA k (O.map cg),aX W] (0,[.str (bs t),bA 1 (O.map cg),aX W])
def aEV(hn:cQ n=true):GX O W (.mk 1 g n E1 b a) ([32,97,99,99,101,112,116,32]++Lib.itoa n):=by
 intro k;have:=kr hn;cases g;exact bh P3<|bp<|ah (jW hn)<|E.cat (a:=[32,97,99,99,101,112,116,32]) (b:=Lib.itoa n) (S6) rfl rfl<|aH
def aES:GX O W (.mk 4 g n E1 b a) [32,116,101,114,109,105,110,97,116,101]:=by
 intro k;cases g;exact bh P3<|av<|av<|av<|aH
def aEU(he:WE (zO O) e)(hR:RE O.length e)(hL:([32,100,101,108,97,121,32]++bj (zO O) e).length <=mT):GX O W (.mk 2 g n [e] b a) ([32,100,101,108,97,121,32]++bj (zO O) e):=by
 intro k;have ee:=uZ (W:=W) he hR (fN);cases g;exact bh P3<|av<|bp<|aA rfl<|ah (ee 1)<|E.cat (a:=[32,100,101,108,97,121,32]) (b:=bj (zO O) e) (fN) rfl rfl<|aH
def aET(he:WE (zO O) e)(hR:RE O.length e)(hL:([32,117,110,116,105,108,32]++bj (zO O) e).length <=mT):GX O W (.mk 3 g n [e] b a) ([32,117,110,116,105,108,32]++bj (zO O) e):=by
 intro k;have ee:=uZ (W:=W) he hR (fN);cases g;exact bh P3<|av<|av<|bp<|aA rfl<|ah (ee 1)<|E.cat (a:=[32,117,110,116,105,108,32]) (b:=bj (zO O) e) (fN) rfl rfl<|aH
end
end Go.Proofs.B
namespace Go.aj
def Bx{p:Prop}(h:p:=by simp only [mT]at hi;rw [pE (by omega) (by omega)];omega):p:=h
def Jl{p:Prop}(h:p:=by rw [cw];omega):p:=h
end Go.aj
namespace Go.Proofs.B
open Go Go.aj T
section
variable{i:Nat}
abbrev rL(O:List OB)(s:CS):Prop:=∀(i:Nat) (t:List UInt8) (k:Nat),t.length+(cM (zO O) i s).length <=mT->
 Ev xw [iI (i:Int),J (encS s),bA k (O.map cg),aX (rB t)] (0,[bA 2 (O.map cg),aX (rB (t++cM (zO O) i s))])
def yv(z:Int->Int)(k:Nat):∀l,qF z k l=l.map (cM z k)
 | []=>rfl
 |s::l=>by simp only [qF,jG,yv z k l]
def Rk{α β:Type}{l:List α}{f:α->List β}(h:i<l.length):((l.take (i+1)).map f).flatten =((l.take i).map f).flatten ++f l[i]/\((l.take i).map f).flatten.length +(f l[i]).length <=(l.map f).flatten.length :=by
 have U:((l.take (i+1)).map f).flatten =((l.take i).map f).flatten ++f l[i]:=by rw [Js h];simp only [tj,C9,jG,RL,Zo]
 refine⟨U,?_⟩;have e:((l.take (i+1)).map f).flatten ++((l.drop (i+1)).map f).flatten =(l.map f).flatten :=by rw [<-C9,<-tj,RK]
 have:=xC List.length e;rw [U,cw,cw]at this;omega
def lpL{O:List OB}{l:List CS}{t:List UInt8}(hl:l.length<=mx)(hi:i<mT)(h:∀s∈l,rL O s)(hL:t.length+(l.map (cM (zO O) (i+1))).flatten.length <=mT):
 cq Lq [iI (i:Int),cX (l.map encS),iI (ln (l.map encS)),iI 0,bA 2 (O.map cg),aX (rB t)] (0,[bA 2 (O.map cg),aX (rB (t++(l.map (cM (zO O) (i+1))).flatten))]):=by
 have tX:bH ((i:Int)+1)=((i+1:Nat):Int):=Bx;have key:=ku (P:=λj=>cq Lq [iI (i:Int),cX (l.map encS),iI (ln (l.map encS)),iI (j:Int),bA 2 (O.map cg),aX (rB (t++((l.take j).map (cM (zO O) (i+1))).flatten))] (0,[bA 2 (O.map cg),aX (rB (t++(l.map (cM (zO O) (i+1))).flatten))])) (m:=l.length)
  (bF aey (az eo (aq (Dp))))
  λj hj ih=>bF aey<|bE (dz hj)<|aA (cb hj)<|by
   rw [dk hj,ix hj hl,tX,gE];obtain⟨f1,f2⟩:=Rk (f:=cM (zO O) (i+1)) hj;rw [f1,<-fy]at ih;exact ah (h _ (ei hj) (i+1) _ 1 (Jl)) ih
 simpa using key
end
end Go.Proofs.B
namespace Go.aj
def qY{p:Prop}(h:p:=by simp [mx]):p:=h
def abi{p:Prop}(h:p:=by simp only [mY,wB,cw,fk,gD,i1];omega):p:=h
def aaI{p:Prop}(h:p:=by rw [<-hu,cw]):p:=h
end Go.aj
namespace Go.Proofs.B
open Go Go.aj T
def dT(z:Int->Int)(k:Nat)(d:CD):List UInt8:=(ind (k+1)++([[100,111]].flatten ++[10]))++cM z (k+2) d.d++(bif lA d.u==1 then []else(ind (k+1)++([[117,110,100,111]].flatten ++[10]))++cM z (k+2) d.u)
def aab(z:Int->Int)(k:Nat):∀l,qt z k l=(l.map (dT z k)).flatten
 | []=>rfl
 | .mk d u::l=>by
   simp only [qt,jG,mY,dT,CD.d,CD.u,aab z k l]
   by_cases h:lA u=1
   ·simp [h]
   ·have hb:(lA u==1)=false:=by simp [h]
    rw [hb];simp [h]
def aLa(d:CD):gI (fC d) 21=lA d.u:=by
 cases d with
 |mk a b=>cases a;cases b;rfl
def lpD{O:List OB}{l:List CD}{i:Nat}{t:List UInt8}(hl:l.length<=mx)(hi:i+2<mT)(h:∀d∈l,rL O d.d/\rL O d.u)(hL:t.length+(l.map (dT (zO O) i)).flatten.length <=mT):
 cq HZ [iI (i:Int),gN (l.map fC),iI (ln (l.map fC)),iI 0,bA 2 (O.map cg),aX (rB t)] (0,[bA 2 (O.map cg),aX (rB (t++(l.map (dT (zO O) i)).flatten))]):=by
 have tX:bH ((i:Int)+1)=((i+1:Nat):Int):=Bx;have zk:bH ((i:Int)+2)=((i+2:Nat):Int):=Bx;have key:=ku (P:=λj=>cq HZ [iI (i:Int),gN (l.map fC),iI (ln (l.map fC)),iI (j:Int),bA 2 (O.map cg),aX (rB (t++((l.take j).map (dT (zO O) i)).flatten))] (0,[bA 2 (O.map cg),aX (rB (t++(l.map (dT (zO O) i)).flatten))])) (m:=l.length)
  (bF aet (az eo (aq (Dp))))
  λj hj ih=>bF aet<|bE (dz hj)<|aA (cb hj)<|by
   rw [dk hj,ix hj hl,tX,zk,Gx,Gw,aLa];obtain⟨f1,f2⟩:=Rk (f:=dT (zO O) i) hj;obtain⟨s1,s2⟩:=h _ (ei hj);rw [f1,<-fy]at ih;generalize hu:t++((l.take j).map (dT (zO O) i)).flatten =u at ih⊢;have OW:u.length=t.length+((l.take j).map (dT (zO O) i)).flatten.length :=aaI;have i1:(ind (i+1)).length =2*(i+1):=wD ..;simp only [dT,<-fy]at ih;simp only [dT]at f2;simp only [cw,fk,gD,i1,mY,wB]at f2;refine ah (zR (l:=[[100,111]]) (n:=i+1) (qY) (by simp only [mY,wB,cw,fk,gD];omega) 1) (ah (s1 (i+2) _ 1 (abi)) ?_);cases hk:lA (l[j]).u ==1 with
   |true=>
    rw [hk]at ih;have:(lA (l[j]).u != 1)=false:=by simp [bne,hk]
    refine az this ?_;simp only [bU,rV,fy]at ih⊢;exact ih
   |false=>
    rw [hk]at ih f2;have:(lA (l[j]).u != 1)=true:=by simp [bne,hk]
    simp only [cf,cw,fk,gD,i1,mY,wB]at f2;refine bE this (ah (zR (l:=[[117,110,100,111]]) (n:=i+1) (qY) (abi) 1) (ah (s2 (i+2) _ 1 (abi)) ?_));simp only [cf,fy]at ih⊢;exact ih
 simpa using key
end Go.Proofs.B
namespace Go.aj
def JC{p:Prop}(h:p:=by simp only [cw,fk,gD,i1];omega):p:=h
end Go.aj
namespace Go.Proofs.B
open Go Go.aj T
abbrev hL3(x:bQ):List (List UInt8):=[[119,104,101,110],bif x.isEmpty then [32,111,116,104,101,114,115]else [],dL x]
def hT(z:Int->Int)(k:Nat)(h:CH):List UInt8:=(ind (k+1)++((hL3 h.dP).flatten ++[10]))++cM z (k+2) h.body
def Z0(z:Int->Int)(k:Nat):∀l,uK z k l=(l.map (hT z k)).flatten
 | []=>rfl
 | .mk x s::l=>by
   simp only [uK,jG,mY,hT,CH.dP,CH.body,Z0 z k l];cases x<;>simp [dL]
def gH0(h:CH):gR (dH h) 0=ints h.dP:=by cases h;rfl
def aKi(l:bQ):(ln (ints l)==0)=l.isEmpty:=by
 cases l with
 |nil=>rfl
 |cons a l=>simp [ln];omega
def lpH{O:List OB}{l:List CH}{i:Nat}{t:List UInt8}(hl:l.length<=mx)(hi:i+2<mT)(h:∀d∈l,rL O d.body/\(∀n∈d.dP,cQ n=true)/\d.dP.length<=mx)(hL:t.length+(l.map (hT (zO O) i)).flatten.length <=mT):
 cq HW [iI (i:Int),gy (l.map dH),iI (ln (l.map dH)),iI 0,bA 2 (O.map cg),aX (rB t)] (0,[bA 2 (O.map cg),aX (rB (t++(l.map (hT (zO O) i)).flatten))]):=by
 have tX:bH ((i:Int)+1)=((i+1:Nat):Int):=Bx;have zk:bH ((i:Int)+2)=((i+2:Nat):Int):=Bx;have key:=ku (P:=λj=>cq HW [iI (i:Int),gy (l.map dH),iI (ln (l.map dH)),iI (j:Int),bA 2 (O.map cg),aX (rB (t++((l.take j).map (hT (zO O) i)).flatten))] (0,[bA 2 (O.map cg),aX (rB (t++(l.map (hT (zO O) i)).flatten))])) (m:=l.length)
  (bF aep (az eo (aq (Dp))))
  λj hj ih=>bF aep<|bE (dz hj)<|aA (cb hj)<|by
   rw [dk hj,ix hj hl,tX,zk,Gv,gH0,aKi];obtain⟨f1,f2⟩:=Rk (f:=hT (zO O) i) hj;obtain⟨s1,s2,s3⟩:=h _ (ei hj);rw [f1,<-fy]at ih;generalize hu:t++((l.take j).map (hT (zO O) i)).flatten =u at ih⊢;have OW:u.length=t.length+((l.take j).map (hT (zO O) i)).flatten.length :=aaI;have i1:(ind (i+1)).length =2*(i+1):=wD ..;simp only [hT,<-fy]at ih;simp only [hT]at f2;simp only [cw,fk,gD,i1]at f2;refine ah Dr (ah (DF s3 s2) (ah (zR (l:=hL3 (l[j]).dP) (n:=i+1) (qY) (by omega) 1) (ah (s1 (i+2) _ 1 (JC)) ?_)));simp only [fy]at ih⊢;exact ih
 simpa using key
end Go.Proofs.B
namespace Go.aj
def akT{p:Prop}(h:p:=by simp only [bU,cw,fk,gD,i1]at f2⊢;omega):p:=h
end Go.aj
namespace Go.Proofs.B
open Go Go.aj T
abbrev aL3(z:Int->Int)(x:CA):List (List UInt8):=[[111,114,32],bj z x.guard,rK z x.kind x.entry x.E]
def aT(z:Int->Int)(k:Nat)(x:CA):List UInt8:=(ind (k+1)++((aL3 z x).flatten ++[10]))++(bif x.kind==1 then cM z (k+2) x.body else [])++(bif x.kind != 4 then cM z (k+2) x.after else [])
def Sr(z:Int->Int)(k:Nat):∀l,nu z k l=(l.map (aT z k)).flatten
 | []=>rfl
 | .mk q g n E1 b a::l=>by
   simp only [nu,jG,mY,aT,CA.kind,CA.guard,CA.entry,CA.E,CA.body,CA.after,Sr z k l]
   by_cases U:q=1
   ·subst U;simp
   ·by_cases h4:q=4
    ·subst h4;simp
    ·have e1:(q==1)=false:=by simp [U]
     have e4:(q != 4)=true:=by simp [bne,h4]
     rw [e1,e4];simp [U,h4]
def gA0(x:CA):gI (dY x) 0=x.kind:=by cases x;rfl
structure acj(O:List OB)(x:CA):Prop where
 g:WE (zO O) x.guard
 r:RE O.length x.guard
 w:(bj (zO O) x.guard).length <=mT
 a:∀W,GX O W x (rK (zO O) x.kind x.entry x.E)
 b:rL O x.body
 c:rL O x.after
def lpA{O:List OB}{l:List CA}{i:Nat}{t:List UInt8}(hl:l.length<=mx)(hi:i+2<mT)(h:∀x∈l,acj O x)(hL:t.length+(l.map (aT (zO O) i)).flatten.length <=mT):
 cq Cz [iI (i:Int),eh (l.map dY),iI (ln (l.map dY)),iI 0,bA 2 (O.map cg),aX (rB t)] (0,[bA 2 (O.map cg),aX (rB (t++(l.map (aT (zO O) i)).flatten))]):=by
 have tX:bH ((i:Int)+1)=((i+1:Nat):Int):=Bx;have zk:bH ((i:Int)+2)=((i+2:Nat):Int):=Bx;have key:=ku (P:=λj=>cq Cz [iI (i:Int),eh (l.map dY),iI (ln (l.map dY)),iI (j:Int),bA 2 (O.map cg),aX (rB (t++((l.take j).map (aT (zO O) i)).flatten))] (0,[bA 2 (O.map cg),aX (rB (t++(l.map (aT (zO O) i)).flatten))])) (m:=l.length)
  (bF aes (az eo (aq (Dp))))
  λj hj ih=>bF aes<|bE (dz hj)<|aA (cb hj)<|by
   rw [dk hj,ix hj hl,tX,zk,DN,DO,JT,NO,gA0];obtain⟨f1,f2⟩:=Rk (f:=aT (zO O) i) hj;obtain⟨U,h2,h3,h4,h5,h6⟩:=h _ (ei hj);rw [f1,<-fy]at ih;generalize hu:t++((l.take j).map (aT (zO O) i)).flatten =u at ih⊢;have OW:u.length=t.length+((l.take j).map (aT (zO O) i)).flatten.length :=aaI;have i1:(ind (i+1)).length =2*(i+1):=wD ..;simp only [aT,<-fy]at ih;simp only [aT]at f2;simp only [cw,fk,gD,i1]at f2;refine ah (exE U h2 h3 1) (ah (h4 _ 1) (ah (zR (l:=aL3 (zO O) l[j]) (n:=i+1) (qY) (by omega) 1) ?_));cases k1:(l[j]).kind ==1 with
   |true=>
    rw [k1]at ih f2;refine bp (ah (h5 (i+2) _ 1 (akT)) ?_);cases k4:(l[j]).kind != 4 with
    |true=>
     rw [k4]at ih f2;refine bp (ah (h6 (i+2) _ 1 (akT)) ?_);simp only [bU,fy]at ih⊢;exact ih
    |false=>
     rw [k4]at ih;refine av ?_;simp only [bU,cf,rV,fy]at ih⊢;exact ih
   |false=>
    rw [k1]at ih f2;refine av ?_;cases k4:(l[j]).kind != 4 with
    |true=>
     rw [k4]at ih f2;refine bp (ah (h6 (i+2) _ 1 (by simp only [bU,cf,cw,fk,gD,i1]at f2⊢;omega)) ?_);simp only [bU,cf,nO,rV,fy]at ih⊢;exact ih
    |false=>
     rw [k4]at ih;refine av ?_;simp only [cf,rV,fy]at ih⊢;exact ih
 simpa using key
end Go.Proofs.B
namespace Go.aj
def SY{p:Prop}(h:p:=by simp only [mT]at hL⊢;omega):p:=h
def Sy{p:Prop}(h:p:=by simp only [fy];rfl):p:=h
end Go.aj
namespace Go.Proofs.B
open Go Go.aj T
def Ti{O:List OB}{s:CS}{l:List CS}(od:∀W,HQ O W s)(h9:(s.f.kind==9)=false)(kp:(s.f.kind==19)=false)
 (hJ:∀(k:Nat) (W:aY),cW CF [cX (s.L.map encS),bA k (O.map cg),J (encS s),aX W] (0,[cX (l.map encS),bA 3 (O.map cg),J (encS s),aX W]))
 (hl:l.length<=mx) (h:∀y∈l,rL O y) (ht:∀i,cM (zO O) i s=(ind i++([ck (zO O) s.f].flatten ++[10]))++(l.map (cM (zO O) (i+1))).flatten):rL O s:=by
 intro i t k hL;rw [ht]at hL⊢;have i1:(ind i).length =2*i:=wD ..;have oe:gI (encS s) 0=s.f.kind:=by cases s;rfl
 have aKW:gR (encS s) 17=s.L.map encS:=by cases s;exact Rm _
 simp only [cw,fk,gD,i1]at hL;refine bh WV ?_;rw [gE];refine ah (od _ 1) (ah (zR (l:=[ck (zO O) s.f]) (n:=i) (qY) (by omega) 1) (ah (o:=(0,[bA 3 (O.map cg),J (encS s),aX (rB (t++(ind i++([ck (zO O) s.f].flatten ++[10]))))])) (cL PM ?_) ?_))
 ·rw [oe,gE];exact az h9 (az kp aH)
 ·refine bp (ah (o:=(0,[cX (l.map encS),bA 3 (O.map cg),J (encS s),aX (rB (t++(ind i++([ck (zO O) s.f].flatten ++[10]))))])) ?_ (ah (lpL (i:=i) hl (SY) h (JC)).diag (aq ?_)))
  ·have:=hJ 3 (rB (t++(ind i++([ck (zO O) s.f].flatten ++[10]))));rw [<-aKW]at this;show cW CF [cX (gR (encS s) 17),bA 3 (O.map cg),J (bg fU 0 (encS s)),aX (rB (t++(ind i++([ck (zO O) s.f].flatten ++[10]))))] _;rw [gE];exact this
  ·exact Sy
end Go.Proofs.B
namespace Go.aj
def qU{p:Prop}(h:p:=by exact av aH):p:=h
end Go.aj
namespace Go.aj
def Zp:=@List.map_take
end Go.aj
namespace Go.Proofs.B
open Go Go.aj T
section
variable{s:CS}{O:List OB}
def E4(s:CS):gI (encS s) 0=s.f.kind/\gI (encS s) 11=s.f.mode:=by cases s;exact⟨rfl,rfl⟩
def ZX(hm:(s.f.mode==0)=false∨(s.f.kind==16)=false/\(s.f.kind==17)=false)(k:Nat)(W:aY):
 cW CF [cX (s.L.map encS),bA k (O.map cg),J (encS s),aX W] (0,[cX (s.L.map encS),bA 3 (O.map cg),J (encS s),aX W]):=by
 refine cL Wg ?_;rw [(E4 s).1,(E4 s).2,gE];cases h0:s.f.mode==0 with
 |false=>exact qU
 |true=>
  rcases hm with hm|⟨U,h2⟩
  ·rw [h0]at hm;cases hm
  ·exact bp (az U (az h2 aH))
def aCW(hm:(s.f.mode==0)=true)(hk:(s.f.kind==16)=true)(k:Nat)(W:aY):
 cW CF [cX (s.L.map encS),bA k (O.map cg),J (encS s),aX W] (0,[cX (([]:List CS).map encS),bA 3 (O.map cg),J (encS s),aX W]):=by
 refine cL Wg ?_;rw [(E4 s).1,(E4 s).2,gE];exact bE hm (bE hk aH)
def aCV(hm:(s.f.mode==0)=true)(lv:(s.f.kind==16)=false)(hk:(s.f.kind==17)=true)(hl:1<=s.L.length)(k:Nat)(W:aY):
 cW CF [cX (s.L.map encS),bA k (O.map cg),J (encS s),aX W] (0,[cX ((s.L.take 1).map encS),bA 3 (O.map cg),J (encS s),aX W]):=by
 refine cL Wg ?_;rw [(E4 s).1,(E4 s).2,gE];refine bE hm (az lv (bE hk (aA ?_ (aq ?_))))
 ·simp only [ln,fY,bw,gG];omega
 ·rw [Zp];rfl
end
end Go.Proofs.B
namespace Go.aj
def Bo{p:Prop}(h:p:=by simp [CS.f]at h):p:=h
def Bk{p:Prop}(h:p:=by rw [he];rfl):p:=h
def Jh{p:Prop}(h:p:=by rw [kp];rfl):p:=h
def akk{p:Prop}(h:p:=by simp only [cw,fk,gD,i1,i2];omega):p:=h
end Go.aj
namespace Go.Proofs.B
open Go Go.aj T
section
variable{a s:CS}{z:Int->Int}{O:List OB}
def gSx(s:CS):gR (encS s) 17=s.L.map encS/\gR (encS s) 18=s.D.map fC/\gR (encS s) 19=s.H.map dH/\gR (encS s) 20=s.A.map dY/\gB (encS s) 9=s.f.els:=by
 cases s;exact⟨Rm _,Y6 _,Y4 _,Y7 _,rfl⟩
def uj(i:Nat):(ind i).length =2*i:=wD ..
def aEc(z:Int->Int)(i:Nat)(s:CS):(ck z s.f).length <=(cM z i s).length :=by
 cases s;simp only [cM,CS.f,cw,fk];omega
abbrev y8(O:List OB)(i:Nat)(s:CS):List UInt8:=ind i++([ck (zO O) s.f].flatten ++[10])
abbrev bgR(i:Nat):List UInt8:=ind (i+1)++([[98,101,103,105,110]].flatten ++[10])
def aCq(od:∀W,HQ O W s)(h9:s.f.kind=9)(hl:s.L=[a])(hD:s.D.length<=mx)(hH:s.H.length<=mx)(hd:∀d∈s.D,rL O d.d/\rL O d.u)(ha:rL O a)
 (hh:∀d∈s.H,rL O d.body/\(∀n∈d.dP,cQ n=true)/\d.dP.length<=mx):rL O s:=by
 intro i t k hL;have ht:cM (zO O) i s=y8 O i s++((s.D.map (dT (zO O) i)).flatten ++(bgR i++(cM (zO O) (i+2) a++(s.H.map (hT (zO O) i)).flatten))):=by
  cases s with
  |mk f L D H A=>
   simp only [CS.f,CS.L,CS.D,CS.H]at h9 hl⊢;subst hl;simp [cM,h9,qF,aab,Z0,CS.f]
 rw [ht]at hL⊢;have i1:=uj i;have i2:=uj (i+1);obtain⟨g17,g18,g19,_⟩:=gSx s;have oe:=(E4 s).1;simp only [cw,fk,gD,i1,i2]at hL;have hi:i+2<mT:=SY;have tX:bH ((i:Int)+1)=((i+1:Nat):Int):=Bx;have zk:bH ((i:Int)+2)=((i+2:Nat):Int):=Bx;refine bh WV ?_;rw [gE];refine ah (od _ 1) (ah (zR (l:=[ck (zO O) s.f]) (n:=i) (qY) (by omega) 1) (ah (o:=(1,[bA 3 (O.map cg),J (encS s),aX (rB (t++(y8 O i s++((s.D.map (dT (zO O) i)).flatten ++(bgR i++(cM (zO O) (i+2) a++(s.H.map (hT (zO O) i)).flatten))))))])) (cL PM ?_) ?_))
 ·rw [oe,gE];refine bE (by rw [h9];rfl) (ah (o:=(0,[bA 3 (O.map cg),J (encS s),aX (rB (t++y8 O i s++(s.D.map (dT (zO O) i)).flatten))])) (cL asf ?_) ?_)
  ·rw [g18,gE];exact ah (lpD hD hi hd (JC)).diag aH
  ·show E (λN n=>bO (FU CX EE N sw [iI (bH ((i:Int)+1)),e7 (kQ [[98,101,103,105,110]]),bA 1 (O.map cg),aX (rB (t++y8 O i s++(s.D.map (dT (zO O) i)).flatten))]) λ_ o9=>bf (decide (0<ln (gR (encS s) 17)))<|bO (FU CX EE N xw [iI (bH ((i:Int)+2)),J (bg fU 0 (gA (gR (encS s) 17) 0)),J [.ptr 0 0 0,.au 1,bl (gR (gC o9 0) 2)],aX (gR o9 1)]) λ_ cV=>bO (HW (FU CX EE N) N N [iI (i:Int),gy (gR (encS s) 19),iI (ln (gR (encS s) 19)),iI 0,J [.ptr 0 0 0,.au 2,bl (gR (gC cV 0) 2)],aX (gR cV 1)]) λ_ eW=>some (1,[J [.ptr 0 0 0,.au 3,bl (gR (gC eW 0) 2)],J (bg fU 0 (encS s)),aX (gR eW 1)])) _;rw [g17,g19,tX,zk,hl];rw [show gA ([a].map encS) 0=encS a from rfl,gE,gE];refine ah (zR (l:=[[98,101,103,105,110]]) (n:=i+1) (qY) (by simp only [mY,wB,cw,fk,gD,i1]at hL⊢;omega) 1) (aA rfl (ah (ha (i+2) _ 1 (akk)) (ah (lpH hH hi hh (akk)).diag (aq ?_))));exact Sy
 ·exact av aH
def aFi(od:∀W,HQ O W s)(kp:s.f.kind=19)(hm:s.f.mode=0)(hl:s.L=[a])(hA:s.A.length<=mx)(ha:rL O a)(hh:∀i,(cM (zO O) i s).length <=mT->∀x∈s.A,acj O x):rL O s:=by
 intro i t k hL;have hh:=hh i (by omega);have ht:cM (zO O) i s=y8 O i s++((s.A.map (aT (zO O) i)).flatten ++(bif s.f.els then([a].map (cM (zO O) (i+1))).flatten else [])):=by
  cases s with
  |mk f L D H A=>
   simp only [CS.f,CS.L,CS.A]at kp hl⊢;subst hl;simp [cM,kp,qF,Sr,CS.f]
 rw [ht]at hL⊢;have i1:=uj i;obtain⟨g17,_,_,g20,g9⟩:=gSx s;have oe:=(E4 s).1;simp only [cw,fk,gD,i1]at hL;have hi:i+2<mT:=SY;refine bh WV ?_;rw [gE];have hA':=λh=>(lpA (i:=i) (t:=t++y8 O i s) hA hi hh h).diag;cases he:s.f.els with
 |false=>
  rw [he]at hL;simp only [cf,gD,rV]at hL⊢;refine ah (od _ 1) (ah (zR (l:=[ck (zO O) s.f]) (n:=i) (qY) (by omega) 1) (ah (o:=(1,[bA 3 (O.map cg),J (encS s),aX (rB (t++(y8 O i s++(s.A.map (aT (zO O) i)).flatten)))])) (cL PM ?_) (av aH)));rw [oe,g20,g9,gE];refine az (Jh) (bE (Jh) (ah (hA' (JC)) (bE (Bk) (aq ?_))));exact Sy
 |true=>
  rw [he]at hL;simp only [bU]at hL⊢;refine ah (od _ 1) (ah (zR (l:=[ck (zO O) s.f]) (n:=i) (qY) (by omega) 1) (ah (o:=(0,[bA 3 (O.map cg),J (encS s),aX (rB (t++y8 O i s++(s.A.map (aT (zO O) i)).flatten))])) (cL PM ?_) (bp ?_)))
  ·rw [oe,g20,g9,gE];exact az (Jh) (bE (Jh) (ah (hA' (JC)) (az (Bk) aH)))
  ·have hJ:=ZX (O:=O) (s:=s) (.inr ⟨Jh,Jh⟩) 3 (rB (t++y8 O i s++(s.A.map (aT (zO O) i)).flatten));rw [<-g17]at hJ;refine ah (o:=(0,[cX ([a].map encS),bA 3 (O.map cg),J (encS s),aX (rB (t++y8 O i s++(s.A.map (aT (zO O) i)).flatten))])) ?_ (ah (lpL (l:=[a]) (i:=i) (qY) (SY) (λy hy=>by rw [my.1 hy];exact ha) (JC)).diag (aq ?_))
   ·show cW CF [cX (gR (encS s) 17),bA 3 (O.map cg),J (bg fU 0 (encS s)),aX (rB (t++y8 O i s++(s.A.map (aT (zO O) i)).flatten))] _;rw [gE,<-hl,<-g17];exact hJ
   ·exact Sy
inductive RS(m:Nat):CS->Prop
 |mk(s:CS)(f:RF m s.f)(l:s.L.length<=mx)(d:s.D.length<=mx)(hh:s.H.length<=mx)(a:s.A.length<=mx)
   (x:∀h∈s.H,(∀n∈h.dP,cQ n=true)/\h.dP.length<=mx)
   (q:∀x∈s.A,RE m x.guard/\cQ x.entry=true/\∀e∈x.E,RE m e)
   (h:∀y∈s.kids,RS m y):RS m s
def aCh(h:WS z s):∀y∈s.kids,WS z y:=by
 intro y hy;cases h<;>simp only [CS.kids,CS.D,CS.L,CS.H,CS.A,List.flatMap_nil,RL,nO,rV,mE,zG,xA,fV,pY,pX,false_and,exists_false]at hy
 case seq L h=>exact h y hy
 case ite e a b he ha hb=>rcases hy with rfl|rfl<;>assumption
 case Kj=>subst hy;assumption
 case fr=>subst hy;assumption
 case mark=>subst hy;assumption
 case scope Ts a D H ha hD hU hH=>
  rcases hy with⟨d,hd,rfl|rfl⟩|rfl|⟨x,hx,rfl⟩
  ·exact hD d hd
  ·exact hU d hd
  ·exact ha
  ·exact hH x hx
 case call=>rcases hy with rfl|rfl<;>assumption
 case GF=>rcases hy with rfl|rfl|rfl<;>assumption
 case acc=>rcases hy with rfl|rfl<;>assumption
 case bC b a A h0 ha hb hc hA=>
  rcases hy with rfl|⟨x,hx,rfl|rfl⟩
  ·exact ha
  ·exact hb x hx
  ·exact hc x hx
 case lock=>subst hy;assumption
def lnU(h:WS (zO O) s)(hR:RF O.length s.f)(hL:(ck (zO O) s.f).length <=mT)(W:aY):HQ O W s:=by
 by_cases k:s.f.kind=16
 ·cases h
  case call t n m E1 I Q a b hm hI hQ _ _ _=>exact acd hm hI hQ hR hL
  all_goals (simp [CS.f]at k)
 ·exact aEf h k hR hL
def ap8{x:CA}{i:Nat}(hg:WE (zO O) x.guard)(hx:(∃n,x= .mk 1 x.guard n [] x.body x.after)∨(∃q e,(q=2∨q=3)/\WE (zO O) e/\x= .mk q x.guard 0 [e] jB x.after)∨x= .mk 4 x.guard 0 [] jB jB)
 (hq:RE O.length x.guard/\cQ x.entry=true/\∀e∈x.E,RE O.length e) (hL:(aT (zO O) i x).length <=mT) (hb:rL O x.body) (hc:rL O x.after):acj O x:=by
 have U:(bj (zO O) x.guard).length +(rK (zO O) x.kind x.entry x.E).length <=mT:=by
  simp only [aT,cw,mY,wB,fk,gD]at hL;omega
 refine⟨hg,hq.1,by omega,?_,hb,hc⟩;obtain⟨q,g,n,E1,b,a⟩:=x;intro W;rcases hx with⟨m,h⟩|⟨q',e,hqq,he,h⟩|h<;>(injection h with x1 xg x2 x3 x4 x5;clear xg;subst x1)
 ·have:rK (zO O) 1 n E1=[32,97,99,99,101,112,116,32]++Lib.itoa n:=by simp [rK]
  show GX O W _ (rK (zO O) 1 n E1);rw [this];exact aEV hq.2.1
 ·subst x3;have hr:RE O.length e:=hq.2.2 e (my.2 rfl)
  change (bj (zO O) g).length +(rK (zO O) q n [e]).length <=mT at U
  show GX O W _ (rK (zO O) q n [e]);rcases hqq with rfl|rfl
  ·have:rK (zO O) 2 n [e]=[32,100,101,108,97,121,32]++bj (zO O) e:=by simp [rK,jQ]
   rw [this]at U⊢;exact aEU he hr (by omega)
  ·have:rK (zO O) 3 n [e]=[32,117,110,116,105,108,32]++bj (zO O) e:=by simp [rK,jQ]
   rw [this]at U⊢;exact aET he hr (by omega)
 ·exact aES
def aE0(h:WS z s):(s.f.kind=9->∃a,s.L=[a])/\(s.f.kind=19->s.f.mode=0/\(∃a,s.L=[a])/\∀x∈s.A,WE z x.guard/\((∃n,x= .mk 1 x.guard n [] x.body x.after)∨(∃q e,(q=2∨q=3)/\WE z e/\x= .mk q x.guard 0 [e] jB x.after)∨x= .mk 4 x.guard 0 [] jB jB))/\(s.f.kind=17->1<=s.L.length):=by
 cases h
 case scope Ts a D H ha hD hU hH=>exact⟨λ_=>⟨a,rfl⟩,λh=>Bo,λh=>Bo⟩
 case bC b a A h0 ha hb hc hA=>exact⟨λh=>Bo,λ_=>⟨rfl,⟨a,rfl⟩,hA⟩,λh=>Bo⟩
 case GF=>exact⟨λh=>Bo,λh=>Bo,λ_=>by simp [CS.L]⟩
 all_goals exact⟨λh=>Bo,λh=>Bo,λh=>Bo⟩
def aDv:∀s:CS,WS (zO O) s->RS O.length s->rL O s:=by
 refine CS.ind λs ih h hr=> ?_;have AH:∀y∈s.kids,rL O y:=λy hy=>ih y hy (aCh h y hy) (by cases hr with|mk _ _ _ _ _ _ _ _ k=>exact k y hy);obtain⟨_,rf,rl,rd,rh,ra,rx,rq,_⟩:=hr;obtain⟨w9,w19,w17⟩:=aE0 h;intro i t k hL;have hn:=aEc (zO O) i s;have od:∀W,HQ O W s:=λW=>lnU h rf (by omega) W
 by_cases k9:s.f.kind=9
 ·obtain⟨a,ha⟩:=w9 k9;exact aCq od k9 ha rd rh (λd hd=>⟨AH _ (wU hd).1,AH _ (wU hd).2⟩) (AH a (yR (by rw [ha];simp))) (λx hx=>⟨AH _ (GI hx),rx x hx⟩) i t k hL
 by_cases ql:s.f.kind=19
 ·obtain⟨hm,⟨a,ha⟩,hA⟩:=w19 ql;refine aFi od ql hm ha ra (AH a (yR (by rw [ha];simp))) (λj hj x hx=>ap8 (i:=j) (hA x hx).1 (hA x hx).2 (rq x hx) ?_ (AH _ (wV hx).1) (AH _ (wV hx).2)) i t k hL;have:(aT (zO O) j x).length <=((s.A.map (aT (zO O) j)).flatten).length :=by
   obtain⟨u,v,e⟩:=ue hx;rw [e,tj,C9,jG,mY,cw,cw];omega
  have e:cM (zO O) j s=ind j++(ck (zO O) s.f++10::((s.A.map (aT (zO O) j)).flatten ++(bif s.f.els then(qF (zO O) (j+1) s.L).flatten else []))):=by
   cases s with
   |mk f L D H A=>simp only [CS.f,CS.A,CS.L]at ql⊢;simp [cM,ql,Sr]
  rw [e]at hj;simp only [cw,fk]at hj;omega
 have h9:(s.f.kind==9)=false:=by simpa using k9
 have kp:(s.f.kind==19)=false:=by simpa using ql
 by_cases hm:s.f.mode=0
 ·by_cases Cg:s.f.kind=16
  ·refine Ti (l:=[]) od h9 kp (aCW (by rw [hm];rfl) (by rw [Cg];rfl)) (by simp) (λy hy=>Jb) (λj=> ?_) i t k hL;cases s with
   |mk f L D H A=>simp only [CS.f]at Cg hm k9 ql⊢;simp [cM,Cg,hm]
  by_cases za:s.f.kind=17
  ·refine Ti (l:=s.L.take 1) od h9 kp (aCV (by rw [hm];rfl) (by simpa using Cg) (by rw [za];rfl) (w17 za)) (SR) (λy hy=>AH _ (yR (List.mem_of_mem_take hy))) (λj=> ?_) i t k hL;cases s with
   |mk f L D H A=>simp only [CS.f,CS.L]at za hm k9 ql⊢;simp [cM,za,hm,yv,Zp]
  ·refine Ti (l:=s.L) od h9 kp (ZX (.inr ⟨by simpa using Cg,by simpa using za⟩)) rl (λy hy=>AH _ (yR hy)) (λj=> ?_) i t k hL;cases s with
   |mk f L D H A=>simp only [CS.f,CS.L]at Cg za hm k9 ql⊢;simp [cM,Cg,za,k9,ql,yv]
 ·refine Ti (l:=s.L) od h9 kp (ZX (.inl (M3))) rl (λy hy=>AH _ (yR hy)) (λj=> ?_) i t k hL;cases s with
  |mk f L D H A=>simp only [CS.f,CS.L]at hm k9 ql⊢;simp [cM,hm,k9,ql,yv]
end
open Go Go.aj
def anY{a b:bQ}(ha:a.length<=mx)(hb:b.length<=mx):Ev L1 [aM (ints a),aM (ints b)] (0,[aJ (NR a b)]):=by
 have U:∀x,Ev XK [iI x,J [aM (ints b)]] (0,[aJ (!gv b x),J [aM (ints b)]]):=λx=>
  bh awL (ah (yt x hb) aH)
 have h:=scan (l:=a) (p:=λx=> !gv b x) (hit:=λi=>(0,[iI (i:Int),J [aM (ints b)]])) (done:=(1,[J [aM (ints b)]])) (LF:=λi N m=>PC (FU CX EE N) N m [aM (ints a),iI (ln (ints a)),iI (i:Int),J [aM (ints b)]])
  (bF adO (az eo aH))
  λi hi r h2 h3=>bF adO<|bE (dz hi)<|aA (cb hi)<|by
   rw [dk hi,ix hi ha];exact ah (U _) (aW (λhc=>aq (h2 hc)) h3)
 rcases h with⟨U,h2⟩|⟨U,i,hi,h2⟩
 ·exact bh af6 (ah (bh adT (ah (bh ad9 (ah h2.diag aH)) aH)) (aq (by rw [NR,U];rfl)))
 ·exact bh af6 (ah (bh adT (ah (bh ad9 (ah h2.diag aH)) aH)) (aq (by rw [NR,U];simp [gI,gB,AV.toI,AV.toB])))
end Go.Proofs.B
namespace Go.aj
def SN{p:Prop}(h:p:=by rw [zY];exact hi):p:=h
def yC{p:Prop}(h:p:=by simp at h;omega):p:=h
def aaN{p:Prop}(h:p:=by rw [hw];simpa using c1):p:=h
end Go.aj
namespace Go.aj
def qw:=@List.drop_length
def C4:=@Bool.and_false
def Za:=@Bool.eq_iff_iff
end Go.aj
namespace Go.Proofs.B.C
open Go Go.aj
section
variable{en i o off:Int}{l:List OB}
abbrev cz(l:List OB):aY:=l.map cg
def ob0:OB:=⟨0,0,0,false,[]⟩
def fp(l:List OB)(i:Int):OB:=l.getD i.toNat ob0
def vA(h:ib i l.length=true):gA (cz l) i.toNat=cg (fp l i):=by
 simp only [ib,bw,gG]at h;have:i.toNat<l.length:=by omega
 rw [xL this];simp [fp,this]
def zY:ib i (cz l).length =ib i l.length:=by simp
def zX{n:Nat}(h0:decide (0<=i)=true)(U:decide (i<(n:Int))=true):ib i n=true:=by
 unfold ib;rw [h0,U];rfl
def fM{α:Type}(f:α->Row)(l:List α):ln (l.map f)=(l.length:Int):=by simp [ln]
def qb(l:List OB)(o off:Int):Bool:=bif decide (0<=o)then bif decide (o<(l.length:Int))then bif decide (0<=off)then decide (off<(fp l o).size)else false else false else false
def Tb:Ev Ff [J [bl (cz l),iI en],iI o,iI off] (0,[aJ (qb l o off)]):=by
 refine bh auO ?_;refine aW (λU=> ?_) λU=>aq (by simp only [qb,U,cf]);refine aW (c:=decide (o<ln (cz l))) (λh2=> ?_) λh2=>aq (by rw [fM]at h2;simp only [qb,U,h2,cf,bU]);rw [fM]at h2;refine aW (λh3=> ?_) λh3=>aq (by simp only [qb,U,h2,h3,cf,bU]);have hi:=zX U h2;refine aA (by rw [show gR [bl (cz l),iI en] 0=cz l from rfl,zY];exact hi) (aq ?_);rw [show gR [bl (cz l),iI en] 0=cz l from rfl,vA hi];simp only [qb,U,h2,h3,bU];rfl
def wM(l:List OB)(o off n:Int):Bool:=bif decide (0<=o)then bif decide (o<(l.length:Int))then bif !(fp l o).ptr then bif decide (0<=off)then bif decide (1<=n)then bif decide (off<=(fp l o).size)then decide (n<=bH ((fp l o).size - off))else false else false else false else false else false else false
def aoS{n:Int}:Ev Qp [J [bl (cz l),iI en],iI o,iI off,iI n] (0,[aJ (wM l o off n)]):=by
 refine bh av5 ?_;rw [show gR [bl (cz l),iI en] 0=cz l from rfl];refine aW (λU=> ?_) λU=>aq (by simp only [wM,U,cf]);refine aW (λh2=> ?_) λh2=>aq (by rw [fM]at h2;simp only [wM,U,h2,cf,bU]);rw [fM]at h2;have hi:=zX U h2;have ca:ib o (cz l).length =true:=SN;refine aA ca ?_;rw [vA hi];refine aW (c:= !(fp l o).ptr) (λh3=> ?_) λh3=>aq (by simp only [wM,U,h2,h3,cf,bU]);refine aW (λh4=> ?_) λh4=>aq (by simp only [wM,U,h2,h3,h4,cf,bU]);refine aW (λh5=> ?_) λh5=>aq (by simp only [wM,U,h2,h3,h4,h5,cf,bU]);refine aA ca ?_;refine aW (c:=decide (off<=(fp l o).size)) (λh6=> ?_) λh6=>aq (by simp only [wM,U,h2,h3,h4,h5,h6,cf,bU]);exact aA ca (aq (by simp only [wM,U,h2,h3,h4,h5,h6,bU];rfl))
mutual
def uF:CE->Nat
 | .mk _ _ _ _ _ _ _ _ l=>vE l+1
def vE:List CE->Nat
 | []=>0
 |e::es=>uF e+vE es
end
mutual
def vX:CE->Nat
 | .mk _ _ _ _ _ _ _ _ l=>wX l+1
def wX:List CE->Nat
 | []=>0
 |e::es=>max (vX e) (wX es)
end
def aaq(e:CE):uF e=vE e.L+1:=by cases e;rfl
def Te(e:CE):vX e=wX e.L+1:=by cases e;rfl
def ZS(e:CE):1<=uF e:=by rw [aaq];omega
def Gl{l:List CE}{i:Nat}(h:i<l.length):bg lU 0 (gA (l.map aZ) ((i:Int).toNat))=aZ l[i]:=by rw [dk h,iK]
def aCi:∀(e:CE),e.Ok->∀(d n:Int),0<=d->d<=64->0<=n->n<=1000->
 ∃n',Ev L9 [J (aZ e),iI d,J [iI n]] (0,[aJ (decide ((uF e:Int)<=n)&&decide (d+vX e<=64)),J [iI n']])/\((decide ((uF e:Int)<=n)&&decide (d+vX e<=64))=true->n'=n- uF e):=by
 refine CE.ind λe ih bB d n hd dS hn hn'=> ?_;have hw:bH (n- 1)=n- 1:=pE (by omega) (by omega)
 by_cases c1:n- 1<0
 ·refine⟨bH (n- 1),bh X9 (bE (c:=decide (bH (n- 1)<0)) (aaN) (aq (o:=(0,[bq,J [iI (bH (n- 1))]])) ?_)),λh=> ?_⟩
  ·have:decide ((uF e:Int)<=n)=false:=by have:=ZS e;simp;omega
   exact kg
  ·have:=ZS e;exact yC
 by_cases c2:64<=d
 ·refine⟨bH (n- 1),bh X9 (az (c:=decide (bH (n- 1)<0)) (aaN) (bE (by simpa using c2) (aq (o:=(0,[bq,J [iI (bH (n- 1))]])) ?_))),λh=> ?_⟩
  ·have:decide (d+(vX e:Int)<=64)=false:=by rw [Te];simp;omega
   rw [this,C4]
  ·rw [Te]at h;exact yC
 have zn:bH (d+1)=d+1:=pE (by omega) (by omega);have h:=ku (m:=e.L.length) (P:=λi=>∀n:Int,0<=n->n<=1000->∃n',
  cq LO [iI d,bR (e.L.map aZ),iI (ln (e.L.map aZ)),iI (i:Int),J [iI n]]
   (bif decide ((vE (e.L.drop i):Int)<=n)&&decide (d+1+wX (e.L.drop i)<=64)then(1,[J [iI (n- vE (e.L.drop i))]])else(0,[bq,J [iI n']])))
  (λn h0 U=>⟨0,bF Xl (az eo (aq (by
    rw [qw];have:(decide (((vE []:Nat):Int)<=n)&&decide (d+1+((wX []:Nat):Int)<=64))=true:=by rw [bw,gG,gG];simp only [vE,wX];omega
    rw [this];simp [vE];rfl)))⟩)
  λi hi mu n h0 U=>by
   obtain⟨n',hk,sj⟩:=ih e.L[i] (ei hi) (bB.qk (ei hi)) (d+1) n (by omega) (by omega) h0 U;rw [lY hi];generalize hA:vE (e.L[i]::e.L.drop (i+1))=A;generalize hB:wX (e.L[i]::e.L.drop (i+1))=B;have hA:A=uF e.L[i]+vE (e.L.drop (i+1)):=hA.symm;have hB:B=max (vX e.L[i]) (wX (e.L.drop (i+1))):=hB.symm;cases hb:(decide ((uF e.L[i]:Int)<=n)&&decide (d+1+vX e.L[i]<=64))with
   |false=>
    rw [hb]at hk;refine⟨n',bF Xl<|bE (dz hi)<|aA (cb hi) ?_⟩;rw [Gl hi,zn];refine ah hk (bp (aq ?_));have:(decide ((A:Int)<=n)&&decide (d+1+(B:Int)<=64))=false:=by
     rw [Fy]at hb⊢;intro h;apply hb;simp at h⊢;omega
    exact kg
   |true=>
    rw [hb]at hk;have:=sj hb;subst this;simp only [bw,gG]at hb;obtain⟨n2,h2⟩:=mu (n- uF e.L[i]) (by omega) (by have:=ZS e.L[i];omega);refine⟨n2,bF Xl<|bE (dz hi)<|aA (cb hi) ?_⟩;rw [Gl hi,zn,ix hi bB.len];refine ah hk (av (E.to h2 ?_));have:(decide ((vE (List.drop (i+1) e.L):Int)<=n- uF e.L[i])&&decide (d+1+(wX (List.drop (i+1) e.L):Int)<=64))=(decide ((A:Int)<=n)&&decide (d+1+(B:Int)<=64)):=by
     rw [Za];simp;omega
    rw [this,show n-(uF e.L[i]:Int)-(vE (List.drop (i+1) e.L):Int)=n-(A:Int)by omega]
 obtain⟨n',h⟩:=h (n- 1) (by omega) (by omega);rw [il]at h;have hq:(decide ((uF e:Int)<=n)&&decide (d+vX e<=64))=(decide ((vE e.L:Int)<=n- 1)&&decide (d+1+wX e.L<=64)):=by
  rw [aaq,Te,Za];simp;omega
 rw [hq];have go:∀o,cq LO [iI d,bR (e.L.map aZ),iI (ln (e.L.map aZ)),iI ((0:Nat):Int),J [iI (n- 1)]] o->∀r,E (λN m=>bif Nat.beq o.1 0 then some (0,[aJ (gB o.2 0),J [iI (gI (gC o.2 1) 0)]])else some (0,[fF,J [iI (gI (gC o.2 0) 0)]])) r->Ev L9 [J (aZ e),iI d,J [iI n]] r:=λo ho r hr=>by
  refine bh X9 (az (c:=decide (bH (n- 1)<0)) (aaN) (az (by simpa using c2) ?_));rw [N8];rw [<-hw]at ho;exact ah ho.diag hr
 cases hb:(decide ((vE e.L:Int)<=n- 1)&&decide (d+1+wX e.L<=64))with
 |true=>
  rw [hb]at h;exact⟨_,go _ h _ aH,λ_=>by rw [aaq];show(n- 1- _:Int)=_;omega⟩
 |false=>
  rw [hb]at h;exact⟨_,go _ h _ aH,λh=>aD⟩
end
end Go.Proofs.B.C
namespace Go.aj
def akf{p:Prop}(h:p:=by simp only [D7,U,h2,h3,bU,cf];rfl):p:=h
def aj3{p:Prop}(h:p:=by simp only [D7,U,h2,h3,bU,cf]):p:=h
def ajP{p:Prop}(h:p:=by simp only [xW,U,h2,bU,cf]):p:=h
end Go.aj
namespace Go.Proofs.B.C
open Go Go.aj
def OG(e:CE):Bool:=decide ((uF e:Int)<=256)&&decide ((vX e:Int)<=64)
def aE6(s:OB):bg Q9 0 (cg s)=cg s:=rfl
def wP(s:SO):Bool:=bif !s.ptr then bif decide (0<=s.lo)then decide (s.hi<=1)else false else false
def DP(s:SO):Ev u6 [J (cA s)] (0,[aJ (wP s)]):=by
 refine bh avq ?_;refine aW (c:= !s.ptr) (λU=>aW (c:=decide (0<=s.lo)) (λh2=>aq ?_) λh2=>aq ?_) λU=>aq ?_<;>simp only [wP,U,bU,cf]<;>(try simp only [h2,bU,cf])<;>rfl
def D7(s:SO)(o:OB):Bool:=bif o.ptr then bif s.null then true else bif s.ptr then NR s.set o.set else false else bif !s.ptr then bif decide (o.lo<=s.lo)then decide (s.hi<=o.hi)else false else false
def aLd{s:SO}{o:OB}(hs:s.set.length<=mx)(ho:o.Ok):Ev Xx [J (cA s),J (cg o)] (0,[aJ (D7 s o)]):=by
 refine bh av4 ?_;refine aW (c:=o.ptr) (λU=>aW (c:=s.null) (λh2=>aq (by simp only [D7,U,h2,bU])) λh2=>aW (c:=s.ptr) (λh3=>ah (anY hs ho) (aq (akf))) λh3=>aq (aj3)) λU=> ?_;exact aW (c:= !s.ptr) (λh2=>aW (c:=decide (o.lo<=s.lo)) (λh3=>aq (akf)) λh3=>aq (aj3)) λh2=>aq (by simp only [D7,U,h2,cf])
def xW(a b:OB):Bool:=bif a.ptr then bif b.ptr then NR a.set b.set else false else bif b.ptr then false else bif decide (b.lo<=a.lo)then decide (a.hi<=b.hi)else false
def acS{a b:OB}(ha:a.Ok)(hb:b.Ok):Ev Mh [J (cg a),J (cg b)] (0,[aJ (xW a b)]):=by
 refine bh ayU ?_;refine aW (c:=a.ptr) (λU=>bE (c:=a.ptr) U (aW (c:=b.ptr) (λh2=>ah (anY ha hb) (aq (by simp only [xW,U,h2,bU];rfl))) λh2=>aq (ajP))) λU=> ?_;refine aW (c:=b.ptr) (λh2=>az (c:=a.ptr) U (aq (ajP))) λh2=> ?_;exact aW (c:=decide (b.lo<=a.lo)) (λh3=>aq (by simp only [xW,U,h2,h3,bU,cf];rfl)) λh3=>aq (by simp only [xW,U,h2,h3,cf])
section
variable{a b:Int}
def kN(k:Int):Bool:=bif k==1 then true else bif k==11 then true else k==14
def kT(k:Int):Bool:=bif k==6 then true else bif k==7 then true else k==10
def gx(e:CE):CE×Int:=
 bif kN e.kind then(.mk e.kind 0 e.N 0 0 0 0 0 [],0)
 else bif e.kind==2 then(.mk e.kind 0 0 e.O e.off 0 0 0 [],0)
 else bif e.kind==3 then(.mk e.kind 0 0 e.O e.off e.len 0 0 [],1)
 else bif e.kind==4 then(.mk e.kind e.op 0 0 0 0 0 0 [],1)
 else bif e.kind==5 then(.mk e.kind e.op 0 0 0 0 0 0 [],2)
 else bif kT e.kind then(.mk e.kind 0 0 0 0 0 0 0 [],2)
 else bif e.kind==8 then(.mk e.kind 0 0 0 0 0 0 0 [],3)
 else bif e.kind==9 then(.mk e.kind 0 0 0 0 0 e.lo e.hi [],1)
 else bif e.kind==12 then(.mk e.kind 0 0 e.O 0 0 0 0 [],0)
 else bif e.kind==13 then(.mk e.kind 0 0 0 0 0 0 0 [],1)
 else(.mk e.kind 0 0 0 0 0 0 0 [],-1)
def kNC(k:Int):cW Xt [cE k] (0,[aJ (kN k)]):=
 cL avk (aW (λU=>aq (by simp only [kN,U,bU])) λU=>aW (λh2=>aq (by simp only [kN,U,h2,bU,cf])) λh2=>aq (by simp only [kN,U,h2,cf]))
def kTC(k:Int):cW W2 [cE k] (0,[aJ (kT k)]):=
 cL atH (aW (λU=>aq (by simp only [kT,U,bU])) λU=>aW (λh2=>aq (by simp only [kT,U,h2,bU,cf])) λh2=>aq (by simp only [kT,U,h2,cf]))
def exC(e:CE):Ev Yo [J (aZ e)] (0,[J (aZ (gx e).1),iI (gx e).2]):=by
 rw [zL e];refine bh ayp (ah (kNC e.kind) (aW (c:=kN e.kind) (λU=> ?_) λU=>aW (c:=e.kind==2) (λh2=> ?_) λh2=>aW (c:=e.kind==3) (λh3=> ?_) λh3=>aW (c:=e.kind==4) (λh4=> ?_) λh4=>aW (c:=e.kind==5) (λh5=> ?_) λh5=>
  ah (kTC e.kind) (aW (c:=kT e.kind) (λh6=> ?_) λh6=>aW (c:=e.kind==8) (λh7=> ?_) λh7=>aW (c:=e.kind==9) (λh8=> ?_) λh8=>aW (c:=e.kind==12) (λh9=> ?_) λh9=>aW (c:=e.kind==13) (λlR=> ?_) λlR=> ?_)))
 ·exact ah (bh axi aH) (aq (by simp only [gx,U,bU];rfl))
 ·exact ah (bh XN aH) (ah (bh afQ aH) (aq (by simp only [gx,U,h2,bU,cf];rfl)))
 ·exact ah (bh XN aH) (ah (bh afQ aH) (ah (bh axh aH) (aq (by simp only [gx,U,h2,h3,bU,cf];rfl))))
 ·exact ah (bh afP aH) (aq (by simp only [gx,U,h2,h3,h4,bU,cf];rfl))
 ·exact ah (bh afP aH) (aq (by simp only [gx,U,h2,h3,h4,h5,bU,cf];rfl))
 ·exact aq (by simp only [gx,U,h2,h3,h4,h5,h6,bU,cf];rfl)
 ·exact aq (by simp only [gx,U,h2,h3,h4,h5,h6,h7,bU,cf];rfl)
 ·exact ah (bh axg aH) (aq (by simp only [gx,U,h2,h3,h4,h5,h6,h7,h8,bU,cf];rfl))
 ·exact ah (bh XN aH) (aq (by simp only [gx,U,h2,h3,h4,h5,h6,h7,h8,h9,bU,cf];rfl))
 ·exact aq (by simp only [gx,U,h2,h3,h4,h5,h6,h7,h8,h9,lR,bU,cf];rfl)
 ·exact aq (by simp only [gx,U,h2,h3,h4,h5,h6,h7,h8,h9,lR,cf];rfl)
def sc(e:CE):Bool:=
 ((gx e).2 ==(e.L.length:Int))&&((gx e).1.N ==e.N)&&((gx e).1.op ==e.op)&&((gx e).1.O ==e.O)&&((gx e).1.off ==e.off)&&((gx e).1.len ==e.len)&&((gx e).1.lo ==e.lo)&&((gx e).1.hi ==e.hi)
def qg(h:(a != b)=true):(a==b)=false:=qc
def eU(h:(a != b)=false):(a==b)=true:=qc
def apY(e:CE)(x:ak):cW W0 [iI (gx e).2,J (aZ e),J x,J (aZ (gx e).1),aM []]
 (bif sc e then(0,[J (aZ e),J (sT (bg Da 0 x) UI),J (aZ (gx e).1),aM []])else(1,[bq,J (aZ e),J [bq,bq,.au 3,iI 0,iI 0],J (aZ (gx e).1),aM []])):=by
 refine cL atF ?_;rw [iK,iK,N8,fM];have g:∀y:CE,gI (aZ y) 1=y.op/\gI (aZ y) 2=y.N/\gI (aZ y) 3=y.O/\gI (aZ y) 4=y.off/\gI (aZ y) 5=y.len/\gI (aZ y) 6=y.lo/\gI (aZ y) 7=y.hi:=λy=>by
  rw [zL];exact⟨rfl,rfl,rfl,rfl,rfl,rfl,rfl⟩
 obtain⟨a1,a2,a3,a4,a5,a6,a7⟩:=g e;obtain⟨b1,b2,b3,b4,b5,b6,b7⟩:=g (gx e).1;rw [a1,a2,a3,a4,a5,a6,a7,b1,b2,b3,b4,b5,b6,b7];refine aW (λU=>aq ?_) λU=>aW (λh2=>aq ?_) λh2=>aW (λh3=>aq ?_) λh3=>aW (λh4=>aq ?_) λh4=>aW (λh5=>aq ?_) λh5=>aW (λh6=>aq ?_) λh6=>aW (λh7=>aq ?_) λh7=>aW (λh8=>aq ?_) λh8=>aq ?_
 ·simp only [sc,qg U,yu,cf]
 ·simp only [sc,eU U,qg h2,yu,C4,cf]
 ·simp only [sc,eU U,eU h2,qg h3,yu,C4,cf]
 ·simp only [sc,eU U,eU h2,eU h3,qg h4,yu,C4,cf]
 ·simp only [sc,eU U,eU h2,eU h3,eU h4,qg h5,yu,C4,cf]
 ·simp only [sc,eU U,eU h2,eU h3,eU h4,eU h5,qg h6,yu,C4,cf]
 ·simp only [sc,eU U,eU h2,eU h3,eU h4,eU h5,eU h6,qg h7,yu,C4,cf]
 ·simp only [sc,eU U,eU h2,eU h3,eU h4,eU h5,eU h6,eU h7,qg h8,C4,cf]
 ·simp only [sc,eU U,eU h2,eU h3,eU h4,eU h5,eU h6,eU h7,eU h8,Bool.and_true,bU]
end
end Go.Proofs.B.C
