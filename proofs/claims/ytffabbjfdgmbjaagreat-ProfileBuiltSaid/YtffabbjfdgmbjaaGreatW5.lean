/-
  What is proved: ceilinglaw37.ProfileBuilt returns true for every input, and leaves its arguments as they were, whatever the memory. No condition.
-/
import Derived.Test.YtffabbjfdgmbjaaGreatW4
import Derived.Test.YtffabbjfdgmbjaaGreatW3
import Derived.KernelRfl
import Derived.Test.YtffabbjfdgmbjaaGreatRows
import Derived.WalkKit
import Derived.ProofKit
import Derived.OpenShut
set_option linter.all false
set_option linter.deprecated false
set_option maxHeartbeats 4000000
namespace Go.ae
def PK:=@List.range_succ
end Go.ae
namespace Go.Proofs.YtffabbjfdgmbjaaGreat.C
open Go Go.ae
section
variable{k n:Nat}
structure O1(o:OB):Prop where
 size:o.size=1
 ptr:o.ptr=false
 set:o.set=[]
 lo: -2147483648<=o.lo
 hi:o.hi<=2147483647
 le:o.lo<=o.hi
theorem asF{l:List OB}(h1:1<=l.length)(h2:l.length<=2048)(h:∀o∈l,O1 o):Ev Oi [.U bE (ia l)] (0,[.bool true]):=by
 have j6:E (λN _=>N2 (FU CX EE N) N [.agg [.U bE (ia l)]]) (0,[.agg [.U bE (ia l)]]):=by
  refine cP alr (aC ?_ (aC ?_ (ah rfl)))
  ·show decide (ln (ia l)<1)=false;rw [fY];simp;omega
  ·show decide (2048<ln (ia l))=false;rw [fY];simp;omega
 have k:=gy (m:=l.length) (P:=λi=>E (λN m=>AE (FU CX EE N) N m [iI (i:Int),.U bE (ia l),iI (ln (ia l)),iI (i:Int),.agg [.U bE (ia l)]]) (1,[iI (l.length:Int),.agg [.U bE (ia l)]]))
  (bx WN (aC eJ (ah rfl))) λi hi ih=>by
    have o:=h _ (eH hi);generalize hx:l[i]=x at o;obtain⟨s1,s2,s3,s4,s5,s6⟩:=o;have j:E (λN _=>Nu (FU CX EE N) N [.agg (fM x)]) (0,[.agg (fM x)]):=by
     refine cP ajS (aC ?_ (aC ?_ (ah rfl)))
     ·show decide (x.size<1)=false;rw [s1];rfl
     ·show decide (16384<x.size)=false;rw [s1];rfl
    refine bx WN (bj (ew hi) (aV (ey hi) ?_));rw [eT hi,hx,Kp,ix hi (mM)];refine ao j (bj rfl (bj (by show(!x.ptr)=true;rw [s2];rfl) (aC (by show decide (0<ln (ints x.set))=false;rw [s3];rfl) (aC (by show decide (x.lo< -2147483648)=false;simpa using s4) (aC (by show decide (2147483647<x.hi)=false;simpa using s5) (aC (by show decide (x.hi<x.lo)=false;simpa using s6) ?_))))));show E (λN m=>AE (FU CX EE N) N m [iI (bo ((i:Int)+x.size)),_,_,_,_]) _;rw [s1,ix hi (mM)];exact ih
 refine bu amn (ao j6 (bj rfl (ao k.diag (aC rfl (ah ?_)))));show((0,[.bool (decide ((l.length:Int)<=16384))]):UO)=_;rw [show decide ((l.length:Int)<=16384)=true by simp;omega]
def kQ(k n:Nat):List RO:=(List.range k).map (λi=>⟨(i:Int),-1,-1⟩)++List.replicate (n- k) qG
theorem Qw(h:k<=n):(kQ k n).length =n:=by simp [kQ];omega
theorem apl(h:k<n):(kQ k n).set k ⟨(k:Int),-1,-1⟩=kQ (k+1) n:=by
 unfold kQ;rw [PK,lX,mu];have:n- k=(n-(k+1))+1:=by omega
 rw [this,Im];have e:=Y0 (s:=(List.range k).map (λi:Nat=>(⟨(i:Int),-1,-1⟩:RO))) (t:=qG::List.replicate (n-(k+1)) qG) k (⟨(k:Int),-1,-1⟩:RO) (by simp);rw [e];simp
theorem aaG{i:Nat}(h:i<n)(hk:k<=n):(kQ k n).getD i qG=if i<k then⟨(i:Int),-1,-1⟩else qG:=by
 unfold kQ
 by_cases hi:i<k
 ·simp [List.getD,List.getElem?_append,hi]
 ·simp [List.getD,List.getElem?_append,hi];rw [wi];split<;>rfl
structure SP(p:PG):Prop where
 o1:1<=p.bZ.length
 o2:p.bZ.length<=2048
 o3:∀o∈p.bZ,O1 o
 ex:4<=p.ry∧p.ry<=64
 t1:1<=p.tasks.length
 t2:p.tasks.length<=32
 t3:∀t∈p.tasks,t.aq=[]∧0<=t.prio∧t.prio<=31∧0<=t.dead∧t.dead<=2147483647
 q1:p.bS.length<=32
 q2:p.bS.length<=p.bZ.length
 q3:∀i (h:i<p.bS.length),p.bS[i].Ke =[(i:Int)]∧p.bS[i].bars =[]∧0<=p.bS[i].ceil ∧p.bS[i].ceil <=31
abbrev gY(p:PG):List RO:=kQ p.bS.length p.bZ.length
abbrev aG(p:PG):AV:= .agg (fG p)
abbrev aR(l:List RO):AV:= .U ai (cb l)
theorem mO(p:PG):ab OD 0 (fG p)=fG p:=rfl
section
variable {p:PG} (sp:SP p)
include sp
theorem rlP:E (λN m=>DH (FU CX EE N) N m [.U dN (p.bS.map ie),iI (ln (p.bS.map ie)),iI 0,aG p,aR (kQ 0 p.bZ.length)]) (1,[aG p,aR (gY p)]):=by
 have h1:=sp.o1;have h2:=sp.o2;have hq:=sp.q2;have hw:bo (ln (p.bZ.map fM)- 1)=(p.bZ.length:Int)- 1:=by rw [fY];exact pI (by omega) (by omega)
 exact gy (m:=p.bS.length) (P:=λi=>E (λN m=>DH (FU CX EE N) N m [.U dN (p.bS.map ie),iI (ln (p.bS.map ie)),iI (i:Int),aG p,aR (kQ i p.bZ.length)]) (1,[aG p,aR (gY p)]))
  (bx W6 (aC eJ (ah rfl))) λi hi ih=>by
    obtain⟨c1,_,_,_⟩:=sp.q3 i hi;have z6:i<p.bZ.length:=by omega
    have kr:=axG (l:=[(i:Int)]) 0 ((p.bZ.length:Int)- 1) (og);have hr:KD [(i:Int)] 0 ((p.bZ.length:Int)- 1)=true:=by
     unfold KD;show(!(List.range 1).any (tx [(i:Int)] 0 ((p.bZ.length:Int)- 1)))=true;have:tx [(i:Int)] 0 ((p.bZ.length:Int)- 1) 0=false:=by
      have a:decide ((i:Int)<0)=false:=by simp
      have b:decide ((p.bZ.length:Int)- 1<(i:Int))=false:=eR;unfold tx;simp only [List.getD_cons_zero,a,b,dj];rfl
     rw [show List.range 1=[0]from rfl,Qi,this];rfl
    rw [hr]at kr;have gro:gA (cb (kQ i p.bZ.length)) ((i:Int).toNat)=oo qG:=by
     have LN:ib (i:Int) (kQ i p.bZ.length).length =true:=by rw [Qw (by omega)];exact oc z6
     rw [ad7 LN];unfold oV;rw [show((i:Int)).toNat =i from rfl,aaG z6 (by omega),if_neg (Nat.lt_irrefl i)]
    have l1:(cb (kQ i p.bZ.length)).length =p.bZ.length:=by rw [fI,Qw (by omega)]
    have inner:E (λN m=>HI (FU CX EE N) N m [iI (i:Int),.U ak (ints [(i:Int)]),iI 1,iI 0,aR (kQ i p.bZ.length)]) (1,[aR (kQ (i+1) p.bZ.length)]):=by
     refine bx WM (bj rfl (aV rfl (aV (by show ib (i:Int) (cb (kQ i p.bZ.length)).length =true;rw [l1];exact oc z6) (aV (by show decide (i<(cb (kQ i p.bZ.length)).length)=true;rw [l1];simpa using z6) ?_))));have e0:gI (gA (ints [(i:Int)]) ((0:Int).toNat)) 0=(i:Int):=rfl;rw [e0,gro];refine aC rfl (aV (by rw [l1];exact oc z6) (aV (by rw [l1];simpa using z6) (bx WM (aC rfl (ah ?_)))));show((1,[.U ai ((cb (kQ i p.bZ.length)).set i (oo ⟨(i:Int),-1,-1⟩))]):UO)=_;rw [<-List.map_set,apl z6]
    refine bx W6 (bj (ew hi) (aV (ey hi) ?_));rw [eT hi,mO,show gR (fG p) 0=p.bZ.map fM from rfl,hw,ix hi (by have:=sp.q1;simp only [mx];omega)];rw [show gR (ie p.bS[i]) 1=ints [(i:Int)]by rw [<-c1];rfl];refine ao kr (aC rfl (ao inner.diag (aC rfl ?_)));exact ih
end
end
end Go.Proofs.YtffabbjfdgmbjaaGreat.C
namespace Go.ae
def aaW{p:Prop}(h:p:=by
 rw [mO];exact ao k.diag (aC rfl (ah rfl))):p:=h
end Go.ae
namespace Go.Proofs.YtffabbjfdgmbjaaGreat.C
open Go Go.ae
def Ak(k:Nat):List (AV×AV):=(List.range k).foldl (λes i=>jK es (iI ((i+1:Nat):Int)) (iI 1)) []
abbrev mI(k:Nat):aH:=au (Ak k)
theorem ZE(k:Nat):Ak (k+1)=jK (Ak k) (iI ((k+1:Nat):Int)) (iI 1):=by unfold Ak;rw [PK,Qh];rfl
theorem ZF(k:Nat)(x:Int):dm (Ak k) (iI x)=if 1<=x∧x<=k then some (iI 1)else none:=by
 induction k with
 |zero=>rw [if_neg (by omega)];rfl
 |succ k ih=>
  rw [ZE,Yc,ih]
  by_cases h:x=((k+1:Nat):Int)
  ·rw [if_pos h,if_pos (by omega)]
  ·rw [if_neg h]
   by_cases h2:1<=x∧x<=(k:Int)
   ·rw [if_pos h2,if_pos (by omega)]
   ·rw [if_neg h2,if_neg (by omega)]
theorem rj(k:Nat):au (aq (mI k))=mI k:=by rw [yB]
abbrev jB(n:Nat):bW:=(List.range n).map λi:Nat=>((i+1:Nat):Int)
theorem aaz{p:PG}{ro:List RO}{w:WH}{n:Nat}(hn:n<=32):L6 p ro w (jB n) (mI 0) (mI n):=λlf=>by
 have hlen:(jB n).length =n:=by simp
 have k:=gy (m:=(jB n).length) (P:=λi=>E (λN m=>Ax (FU CX EE N) N m [.U ak (ints (jB n)),iI (ln (ints (jB n))),iI (i:Int),K0 p lf,.U ai (cb ro),.U 0 (mI i),.agg (cw 0 w)]) (0,W3 p ro lf (mI n) w))
  (by
    refine bx MZ (aC eJ (ah ?_));rw [rj,hlen];rfl) λi hi ih=>by
    have e0:(jB n).getD i 0=((i+1:Nat):Int):=by
     rw [hlen]at hi;simp [List.getD,hi]
    refine bx MZ (bj (ew hi) (aV (ey hi) ?_));rw [EZ hi,e0,yB,ix hi (by rw [hlen];simp only [mx];omega)];rw [show dm (Ak i) (iI ((i+1:Nat):Int))=none by rw [ZF,if_neg (by omega)]];rw [<-ZE];exact ih
 exact k
abbrev w0(t:Nat):WH:=⟨(t:Int),[],[],[],[],[],false,false,false,-1,0⟩
structure SQ(p:PG)(b0:CS)(l:List TK):Prop where
 tasks:∃t0,p.tasks=t0::l∧t0.body=b0
 nd:(p.tasks.map λt=>aE t.body).sum <=8192
 h0:AS p (gY p) (mI 0) (mI l.length) (w0 0) b0
 hs:∀i (h:i<l.length),AC p (gY p) (mI l.length) (w0 (i+1)) l[i].body
section
variable {p:PG} (sp:SP p)
include sp
theorem arj:Ev OM [aG p] (0,[.bool true,aR (gY p)]):=by
 have k1:=axI sp.o1 sp.o2;have xV:E (λN _=>Oe (FU CX EE N) N [aG p,aR (kQ 0 p.bZ.length)]) (0,[aG p,aR (gY p)]):=by
  refine cP alX ?_;rw [mO];exact ao (rlP sp).diag (aC rfl (ah rfl))
 have t122:E (λN m=>DC (FU CX EE N) N m [.U cT (p.tasks.map bL),iI (ln (p.tasks.map bL)),iI 0,aG p,aR (gY p)]) (1,[aG p,aR (gY p)]):=
  gy (m:=p.tasks.length) (P:=λi=>E (λN m=>DC (FU CX EE N) N m [.U cT (p.tasks.map bL),iI (ln (p.tasks.map bL)),iI (i:Int),aG p,aR (gY p)]) (1,[aG p,aR (gY p)]))
   (bx W1 (aC eJ (ah rfl))) λi hi ih=>by
     obtain⟨c1,_⟩:=sp.t3 _ (eH hi);refine bx W1 (bj (ew hi) (aV (ey hi) ?_));rw [eT hi,mO,ix hi (by have:=sp.t2;simp only [mx];omega),show gR (bL p.tasks[i]) 1=[]by show p.tasks[i].aq.map F6=[];rw [c1];rfl];refine ao (o:=(1,[aG p,aR (gY p)])) (E.diag (f:=λN m=>HH (FU CX EE N) N m _) (bx akA (aC rfl (ah rfl)))) (aC rfl ?_);exact ih
 have Ul:E (λN _=>Od (FU CX EE N) N [aG p,aR (gY p)]) (0,[aG p,aR (gY p)]):=by
  refine cP alW ?_;rw [mO];exact ao t122.diag (aC rfl (ah rfl))
 have axZ:E (λN m=>DB (FU CX EE N) N m [.U bE (ia p.bZ),iI (ln (ia p.bZ)),iI 0,aR (gY p)]) (1,[aR (gY p)]):=
  gy (m:=p.bZ.length) (P:=λi=>E (λN m=>DB (FU CX EE N) N m [.U bE (ia p.bZ),iI (ln (ia p.bZ)),iI (i:Int),aR (gY p)]) (1,[aR (gY p)]))
   (bx W0 (aC eJ (ah rfl))) λi hi ih=>by
     have c1:=(sp.o3 _ (eH hi)).set;refine bx W0 (bj (ew hi) (aV (ey hi) ?_));rw [eT hi,ix hi (by have:=sp.o2;simp only [mx];omega),show gR (fM p.bZ[i]) 4=[]by show ints p.bZ[i].set =[];rw [c1];rfl];refine ao (o:=(1,[aR (gY p)])) (E.diag (f:=λN m=>HG (FU CX EE N) N m _) (bx akz (aC rfl (ah rfl)))) (aC rfl ?_);exact ih
 refine bu ani ?_;rw [mO,show gR (fG p) 0=ia p.bZ from rfl,fY];rw [show kQ 0 p.bZ.length=List.replicate p.bZ.length qG by simp [kQ]]at xV;refine ao k1 (ao xV (bj rfl (ao Ul (bj rfl (ao axZ.diag (aC rfl (ah rfl)))))))
theorem ax4:E (λN _=>OR (FU CX EE N) N [aG p]) (0,[aG p]):=by
 have h1:=sp.t1;have h2:=sp.t2;have hq:=sp.q1;have he:=sp.ex;refine cP ang ?_;rw [mO];refine ao (asF sp.o1 sp.o2 sp.o3) (aC rfl (aC (by show decide (p.ry<4)=false;simp;omega) (aC (by show decide (64<p.ry)=false;simp;omega) ?_)));rw [show gR (fG p) 2=p.tasks.map bL from rfl,show gR (fG p) 3=p.bS.map ie from rfl,fY,fY];refine aC (eR) (aC (eR) (aC (eR) (aV (eR) (aC ?_ (ah rfl)))));have c:=sp.t3 p.tasks[0] (eH (by omega));have:gA (p.tasks.map bL) 0=bL p.tasks[0]:=Br (by omega);rw [this];show decide (0<ln (p.tasks[0].aq.map F6))=false;rw [c.1];rfl
theorem asK:E (λN _=>OA (FU CX EE N) N [aG p]) (0,[aG p]):=by
 have k:=gy (m:=p.tasks.length) (P:=λi=>E (λN m=>H2 (FU CX EE N) N m [.U cT (p.tasks.map bL),iI (ln (p.tasks.map bL)),iI (i:Int)]) (1,[]))
  (bx Xo (aC eJ (ah rfl))) λi hi ih=>by
    obtain⟨c1,c2,c3,c4,c5⟩:=sp.t3 _ (eH hi);refine bx Xo (bj (ew hi) (aV (ey hi) ?_));rw [eT hi,ix hi (by have:=sp.t2;simp only [mx];omega),show gI (bL p.tasks[i]) 23=p.tasks[i].dead by generalize p.tasks[i]=t;obtain⟨a,b,c,d⟩:=t;cases c;rfl,show gI (bL p.tasks[i]) 0=p.tasks[i].prio from rfl,show gR (bL p.tasks[i]) 1=[]by show p.tasks[i].aq.map F6=[];rw [c1];rfl];exact aC (by simpa using c2) (aC (by simpa using c3) (aC rfl (aC (by simpa using c4) (aC (by simpa using c5) ih))))
 refine cP amR ?_;exact aaW
theorem arD:E (λN _=>On (FU CX EE N) N [aG p]) (0,[aG p]):=by
 have k:=gy (m:=p.bS.length) (P:=λi=>E (λN m=>HQ (FU CX EE N) N m [.U dN (p.bS.map ie),iI (ln (p.bS.map ie)),iI (i:Int),aG p]) (1,[aG p]))
  (bx W8 (aC eJ (ah rfl))) λi hi ih=>by
    obtain⟨c1,c2,c3,c4⟩:=sp.q3 i hi;refine bx W8 (bj (ew hi) (aV (ey hi) ?_));rw [eT hi,mO,ix hi (by have:=sp.q1;simp only [mx];omega)];generalize p.bS[i]=q at c1 c2 c3 c4;have j:E (λN _=>NW (FU CX EE N) N [.agg (ie q)]) (0,[.agg (ie q)]):=by
     refine cP ak1 (aC (by show decide (q.ceil<0)=false;simpa using c3) (aC (by show decide (31<q.ceil)=false;simpa using c4) (aC (by show decide (8<ln (q.bars.map bq))=false;rw [c2];rfl) (ah rfl))))
    refine ao j (bj rfl ?_);refine ao (o:=(1,[aG p,.agg (ie q)])) (E.diag (f:=λN m=>NT (FU CX EE N) N m _) (bx akY (aC (by show decide (0<ln (q.bars.map bq))=false;rw [c2];rfl) (ah rfl)))) (aC rfl ?_);exact ih
 refine cP aml ?_;exact aaW
end
abbrev K2(p:PG)(lf:Int):AV:= .agg (gz 2 1 p lf)
theorem Kq(t:TK):ab dw 2 (bL t)=aX t.body:=Fe
section
variable {p:PG} (sp:SP p) {b0:CS} {l:List TK} (sq:SQ p b0 l)
include sp sq
theorem adW:p.tasks.length=l.length+1:=by obtain⟨t0,h,_⟩:=sq.tasks;rw [h];rfl
theorem axF:∃vG:Int,E (λN m=>DI (FU CX EE N) N m [.U cT (p.tasks.map bL),iI (ln (p.tasks.map bL)),iI 0,K2 p 8192,.U 0 (mI 0),aR (gY p)]) (1,[K2 p vG,.U 0 (mI l.length),aR (gY p)]):=by
 obtain⟨t0,ht,hb⟩:=sq.tasks;have hlen:=adW sp sq;have nd:=sq.nd;have hc:=rj l.length;have tl:=sp.t2;have k:=gy (m:=l.length) (P:=λi=>∀lf:Int,((l.drop i).map λt=>aE t.body).sum <=lf->lf<=8192->∃vG:Int,E (λN m=>DI (FU CX EE N) N m [.U cT (p.tasks.map bL),iI (ln (p.tasks.map bL)),iI ((i+1:Nat):Int),K2 p lf,.U 0 (mI l.length),aR (gY p)]) (1,[K2 p vG,.U 0 (mI l.length),aR (gY p)]))
  (λlf _ _=>⟨lf,bx NZ (aC (by rw [<-hlen];exact eJ) (ah (by rw [hc];rfl)))⟩) λi hi ih lf g0 g1=>by
    rw [kG hi,fW,nk]at g0;have vO:i+1<p.tasks.length:=by omega
    have e1:p.tasks[i+1]=l[i]:=by simp [ht]
    obtain⟨vG,q⟩:=ih (lf- aE l[i].body) (by omega) (by omega);refine⟨vG,bx NZ (bj (ew vO) (aV (ey vO) ?_))⟩;rw [hc,eT vO,e1,Kq,ix vO (mM)];refine ao (sq.hs i hi lf (by omega) g1) (aC rfl ?_);erw [hc];exact q
 rw [ht,fW,nk,hb]at nd;obtain⟨vG,q⟩:=k (8192- aE b0) (by rw [uB];omega) (by omega);have h0:0<p.tasks.length:=by omega
 have e0:p.tasks[0]=t0:=by simp [ht]
 refine⟨vG,bx NZ (bj (ew h0) (aV (ey h0) ?_))⟩;have hc0:=rj 0;rw [hc0];have g:gA (p.tasks.map bL) (((0:Nat):Int).toNat)=bL t0:=by rw [eT h0,e0]
 have g':ab dw 2 (gA (p.tasks.map bL) (Int.toNat 0))=aX b0:=by
  show ab dw 2 (gA (p.tasks.map bL) (((0:Nat):Int).toNat))=_;rw [g,Kq,hb]
 rw [g'];refine ao (sq.h0 8192 (by omega) (A7 _)) (aC rfl ?_);erw [hc];exact q
theorem ayT(lf:Int):E (λN m=>AJ (FU CX EE N) N m [iI (ln (p.tasks.map bL)),iI 0,K2 p lf,.U 0 (mI l.length),aR (gY p)]) (1,[K2 p lf,.U 0 (mI l.length),aR (gY p)]):=by
 have hlen:=adW sp sq;have hc:=rj l.length;have tl:=sp.t2;have k:=gy (m:=p.tasks.length) (P:=λi=>E (λN m=>AJ (FU CX EE N) N m [iI (ln (p.tasks.map bL)),iI (i:Int),K2 p lf,.U 0 (mI l.length),aR (gY p)]) (1,[K2 p lf,.U 0 (mI l.length),aR (gY p)]))
  (bx W7 (aC eJ (ah (by rw [hc];rfl)))) λi hi ih=>by
    refine bx W7 (bj (ew hi) ?_);rw [hc,ix hi (mM),zi,yB];refine aJ (c:=decide (0<i)) (λh=> ?_) λh=>ih;have h:0<i:=jh;rw [show dm (Ak l.length) (iI (i:Int))=some (iI 1)by rw [ZF,if_pos (by omega)]];exact aC rfl ih
 exact k
theorem afy:Ev um [aG p] (0,[.bool true]):=by
 obtain⟨vG,k1⟩:=axF sp sq;have k2:=ayT sp sq vG;refine bu aod ?_;rw [mO];refine ao (ax4 sp) (bj rfl ?_);erw [mO];refine ao (asK sp) (bj rfl ?_);erw [mO];refine ao (arj sp) (aC rfl (ao (arD sp) (bj rfl ?_)));refine ao k1.diag (aC rfl ?_);erw [rj];exact ao k2.diag (aC rfl (ah rfl))
end
end Go.Proofs.YtffabbjfdgmbjaaGreat.C
namespace Go.ae
def pQ{p:Prop}(h:p:=by rw [uI];rfl):p:=h
def l8{p:Prop}(h:p:=by kernel_rfl):p:=h
def Jh{p:Prop}(h:p:=by rw [JF];rfl):p:=h
end Go.ae
namespace Go.Proofs.YtffabbjfdgmbjaaGreat
open Go Go.ae C
structure SC where
 prio:Int
 per:Int
 dead:Int
 off:Int
 uses:bW
 deep:Int
abbrev ov(l:bW):aH:=l.map λu=>[.int .u8 u]
def dT(s:SC):aD:=[iI s.prio,iI s.per,iI s.dead,iI s.off,.U oM (ov s.uses),.int .u8 s.deep]
def my(s:SC):ab Og 0 (dT s)=dT s:=rfl
abbrev bB(n:Int):CE:= .mk 1 0 n 0 0 0 0 0 []
abbrev dS(o:Int):CE:= .mk 2 0 0 o 0 0 0 0 []
abbrev sl(a b:CE):CE:= .mk 5 1 0 0 0 0 0 0 [a,b]
abbrev oi(a:CE):CE:= .mk 9 0 0 0 0 0 0 2147483647 [a]
def uI(f:dW)(l:List CS)(d:List CD)(h:List CH)(a:List CA):aX (.mk f l d h a)=oq f (l.map aX) (d.map ed) (h.map mR) (a.map mh):=QI _
def JF(k p n o f ln lo hi:Int)(l:List CE):bq (.mk k p n o f ln lo hi l)=[.int .u8 k,.int .u8 p,iI n,iI o,iI f,iI ln,iI lo,iI hi,.U ax (l.map bq)]:=I1 _
def qy(n:Int):Ev oK [iI n] (0,[.agg (bq (bB n))]):=bu aoI (ah (Jh))
def E5(o:Int):Ev yv [iI o] (0,[.agg (bq (dS o))]):=bu aob (ah (Jh))
def BF:Ev wg [] (0,[.agg (aX eK)]):=bu aoc (ah (pQ))
def BY(l:List CS):Ev wu [.U aZ (l.map aX)] (0,[.agg (aX (ez l))]):=bu aoG (ah (pQ))
abbrev By:aD:=[.int .u8 2,iI 0,iI 0,iI 0,iI 0,iI 0,.bool false,.bool false,.bool false,.bool false,.bool false,.int .u8 0,.aa 0,.U ax [],.aa 1,.U aL [],.U ak [],.U aZ [],.U bD [],.U bK [],.U bP []]
def xg(o:Int)(e:CE):Ev sU [iI o,.agg (bq e)] (0,[.agg By,.U ax [bq e],.U aL [eM (ox o)]]):=bu aoF (ah (by rw [dx];rfl))
def wD(o:Int)(e:CE):sT (ab dw 0 By) [(12,.U ax [bq e]),(14,.U aL [eM (ox o)])]=aX (cV o e):=pQ
abbrev BZ(ts:bW)(d:aH):aD:=[.int .u8 9,iI 0,iI 0,iI 0,iI 0,iI 0,.bool false,.bool false,.bool false,.bool false,.bool false,.int .u8 0,.U ax [],.U ax [],.U aL [],.U aL [],.U ak (ints ts),.aa 0,.U bD d,.U bK [],.U bP []]
def aaE(ts:bW)(d:List CD)(b:CS):sT (ab dw 0 (BZ ts (d.map ed))) [(17,.U aZ [aX b])]=aX (eZ ts d b):=pQ
def Qv(ts:bW)(b:CS):Ev v9 [.agg (aX eK),.agg (aX b),.U ak (ints ts)] (0,[.agg (BZ ts []),.U aZ [aX b]]):=by
 refine bu XY ?_;refine aC (pQ) (ah ?_);rw [iT]
def Z5(o:Int)(e:CE)(b:CS):Ev v9 [.agg (aX (cV o e)),.agg (aX b),.U ak (ints [])] (0,[.agg (BZ [] [ed (.mk (cV o e) eK)]),.U aZ [aX b]]):=by
 refine bu XY ?_;refine bj (pQ) (ao BF (ah ?_));rw [iT];have e2:ed (.mk (cV o e) eK)=aX (cV o e)++aX eK:=by simp only [ed]
 rw [e2,uI (K5 o e),uI (cf 1)];show _=_;exact l8
def eL(u:Int):CS:=yY u (cV u (bB 3))
def QM{u:Int}(h:0<=u∧u<=255):bo u=u:=pI (by omega) (by omega)
def asp{l:bW}(hl:l.length<=10)(hu:∀u∈l,0<=u∧u<=255)(b:List CS)(hb:b.length<=2):
 E (λN m=>Dt (FU CX EE N) N m [.U oM (ov l),iI (ln (ov l)),iI 0,.U aZ (b.map aX)]) (0,[.U aZ ((b++l.map eL).map aX)]):=by
 have k:=gy (m:=l.length) (P:=λi=>E (λN m=>Dt (FU CX EE N) N m [.U oM (ov l),iI (ln (ov l)),iI (i:Int),.U aZ ((b++(l.take i).map eL).map aX)]) (0,[.U aZ ((b++l.map eL).map aX)]))
  (by rw [Iq];exact bx WI (aC eJ (ah rfl))) λi hi ih=>by
    have hu:=hu _ (eH hi);refine bx WI (bj (ew hi) (aV (ey hi) ?_));rw [eT hi,show gI [AV.int .u8 l[i]] 0=l[i]from rfl,QM hu,ix hi (mM)];refine ao (qy 3) ?_;erw [dx];refine ao (xg l[i] (bB 3)) (aV ?_ ?_)
    ·rw [fI,fC,fI,lZ];simp;omega
    ·have e1:(b++(l.take (i+1)).map eL).map aX=(b++(l.take i).map eL).map aX++[aX (eL l[i])]:=by
      rw [AY hi];simp only [lX,fW,wy,mu]
     have e2:aX (eL l[i])=[.int .u8 20,iI 0,iI 0,iI 0,iI l[i],iI 0,.bool false,.bool false,.bool false,.bool false,.bool false,.int .u8 0,.U ax ([]),.U ax ([]),.U aL ([]),.U aL ([]),.U ak [],.U aZ [aX (cV l[i] (bB 3))],.U bD ([]),.U bK ([]),.U bP ([])]:=by
      unfold eL;rw [uI (sg l[i])];rfl
     rw [e1,e2]at ih;erw [wD];exact ih
 rw [List.take_zero,wy,mv]at k;exact k
def mb(d:Int)(b:CS)(l:List CS):List CS:=bif Int.tmod d 2==1 then [b,eZ [] [] (ez l)]else b::l
def mz(d o per:Int):CE:=bif decide (1<Int.tmod d 4)then sl (bB per) (dS o)else sl (dS o) (bB per)
def ax3(s:SC)(b:CS)(l:List CS):E (λN _=>NA (FU CX EE N) N [.agg (dT s),.U aZ ((b::l).map aX)]) (0,[.agg (dT s),.U aZ ((mb s.deep b l).map aX)]):=by
 refine cP ake ?_;rw [my,show gI (dT s) 5=s.deep from rfl];unfold mb;refine aJ (c:=Int.tmod s.deep 2==1) (λh=> ?_) λh=>ah (iF);rw [h];refine aV (by rw [fY];simp) (ao BF (aV (by rw [fY];simp;omega) ?_));rw [show((b::l).map aX).drop 1=l.map aX from rfl,show gA ((b::l).map aX) 0=aX b from rfl];refine ao (BY l) ?_;erw [iT,iT];refine ao (Qv [] (ez l)) (ah ?_);have:=aaE [] [] (ez l);rw [iT];erw [this];rfl
def at0(s:SC)(o:Int):E (λN _=>Np (FU CX EE N) N [iI o,.agg (dT s),.agg (bq (sl (dS o) (bB s.per)))]) (0,[.agg (dT s),.agg (bq (mz s.deep o s.per))]):=by
 refine cP ajM ?_;rw [my,dx,show gI (dT s) 5=s.deep from rfl,show gI (dT s) 1=s.per from rfl];unfold mz;refine aJ (c:=decide (1<Int.tmod s.deep 4)) (λh=> ?_) λh=>ah (iF);rw [h];refine ao (qy s.per) (ao (E5 o) (ah ?_));erw [dx,dx];rw [JF];show _=((0,[.agg (dT s),.agg (bq (sl (bB s.per) (dS o)))]):UO);rw [JF 5];rfl
def gk(o:Int)(i:Nat)(s:SC):CS:=jw (bB 1) (ez (mb s.deep (fv true (dS o)) (il (bB ((i+1:Nat):Int))::s.uses.map eL)++[cV o (oi (mz s.deep o s.per))]))
def oa(o:Int)(i:Nat)(s:SC):CS:=bif decide (1<Int.tmod s.deep 4)then ez [cV o (bB s.off),gk o i s]else eZ [] [.mk (cV o (bB s.off)) eK] (gk o i s)
def jH(n i:Nat)(s:SC):TK:=⟨s.prio,[],oa ((n+i:Nat):Int) i s,s.dead⟩
def YM(o:Int):aX (fv true (dS o))=[.int .u8 15,iI 0,iI 0,iI 0,iI 0,iI 0,.bool false,.bool false,.bool true,.bool false,.bool false,.int .u8 0,.U ax [bq (dS o)],.U ax ([]),.U aL ([]),.U aL ([]),.U ak [],.U aZ ([]),.U bD ([]),.U bK ([]),.U bP ([])]:=pQ
def aqb(e:CE):aX (il e)=[.int .u8 11,iI 0,iI 0,iI 0,iI 0,iI 0,.bool false,.bool false,.bool false,.bool false,.bool false,.int .u8 0,.U ax [bq e],.U ax ([]),.U aL ([]),.U aL ([]),.U ak [],.U aZ ([]),.U bD ([]),.U bK ([]),.U bP ([])]:=pQ
def Pb(e:CE)(b:CS):aX (jw e b)=[.int .u8 5,iI 0,iI 0,iI 0,iI 0,iI 0,.bool false,.bool false,.bool false,.bool false,.bool false,.int .u8 0,.U ax [bq e],.U ax ([]),.U aL ([]),.U aL ([]),.U ak [],.U aZ [aX b],.U bD ([]),.U bK ([]),.U bP ([])]:=pQ
def Y8(p:Int)(s:CS)(d:Int):bL ⟨p,[],s,d⟩=[iI p,.U pD ([]),.int .u8 (gI (aX s) 0),iI (gI (aX s) 1),iI (gI (aX s) 2),iI (gI (aX s) 3),iI (gI (aX s) 4),iI (gI (aX s) 5),.bool (gB (aX s) 6),.bool (gB (aX s) 7),.bool (gB (aX s) 8),.bool (gB (aX s) 9),.bool (gB (aX s) 10),.int .u8 (gI (aX s) 11),.U ax (gR (aX s) 12),.U ax (gR (aX s) 13),.U aL (gR (aX s) 14),.U aL (gR (aX s) 15),.U ak (gR (aX s) 16),.U aZ (gR (aX s) 17),.U bD (gR (aX s) 18),.U bK (gR (aX s) 19),.U bP (gR (aX s) 20),iI d]:=by
 cases s with
 |mk f l dd h a=>
  show iI p:: .U pD []::(aX (.mk f l dd h a)++[iI d])=_;exact pQ
abbrev lO:OB:=⟨1,0,9,false,[]⟩
abbrev oA:OB:=⟨1,0,2147483647,false,[]⟩
def fx(n:Nat)(l:List SC):List TK:=l.zipIdx.map λx=>jH n x.2 x.1
def pH(n:Nat)(l:List SC):(fx n l).length =l.length:=by simp [fx]
def QR(n:Nat)(l:List SC)(i:Nat)(h:i<l.length):(fx n l)[i]'(by rw [pH];exact h)=jH n i l[i]:=by simp [fx]
structure SC.Ok(s:SC):Prop where
 len:s.uses.length<=10
 uses:∀u∈s.uses,0<=u∧u<=255
def atS{s:SC}(hs:s.Ok)(b:List CS)(hb:b.length<=2):E (λN _=>NC (FU CX EE N) N [.agg (dT s),.U aZ (b.map aX)]) (0,[.agg (dT s),.U aZ ((b++s.uses.map eL).map aX)]):=by
 refine cP akf ?_;rw [my,show gR (dT s) 4=ov s.uses from rfl];exact ao (asp hs.len hs.uses b hb).diag (ah rfl)
def PZ(d:Int)(b:CS)(l:List CS):(mb d b l).length <=l.length+2:=by unfold mb;cases Int.tmod d 2==1<;>simp
def uC(p:Int)(d:CD)(b:CS)(x:Int):bL ⟨p,[],eZ [] [d] b,x⟩=[iI p,.U pD ([]),.int .u8 9,iI 0,iI 0,iI 0,iI 0,iI 0,.bool false,.bool false,.bool false,.bool false,.bool false,.int .u8 0,.U ax ([]),.U ax ([]),.U aL ([]),.U aL ([]),.U ak [],.U aZ [aX b],.U bD [ed d],.U bK [],.U bP [],iI x]:=by
 show iI p:: .U pD []::(aX (eZ [] [d] b)++[iI x])=_;exact pQ
def Z6(e:CE):bq (oi e)=[.int .u8 9,.int .u8 0,iI 0,iI 0,iI 0,iI 0,iI 0,iI 2147483647,.U ax [bq e]]:=Jh
abbrev kP(i:Nat)(a:AV)(n:Nat)(cs:bW)(l:List SC)(pr:aH):aD:=[a,.U ak (ints (jB i)),.U bE ((cs.map (λ_=>lO)++List.replicate i oA).map fM),.U cT (sn::((fx n l).take i).map bL),.U dN pr]
abbrev aP:AV:= .agg [.aa 2,iI 4,.aa 3,.aa 4]
def asa{n:Nat}{cs:bW}{l:List SC}{pr:aH}(hs:∀s∈l,s.Ok)(hn:n<=8)(iC:cs.length<=8)(hl:l.length<=6):
 E (λN m=>yh (FU CX EE N) N m ([iI (n:Int),.U fH (l.map dT),iI (ln (l.map dT)),iI 0]++kP 0 aP n cs l pr)) (0,kP l.length aP n cs l pr):=by
 refine gy (m:=l.length) (P:=λi=>E (λN m=>yh (FU CX EE N) N m ([iI (n:Int),.U fH (l.map dT),iI (ln (l.map dT)),iI (i:Int)]++kP i aP n cs l pr)) (0,kP l.length aP n cs l pr))
  (bx WY (aC eJ (ah rfl))) λi hi ih=> ?_
 have cO:=hs _ (eH hi);have hw:bo ((n:Int)+(i:Int))=((n+i:Nat):Int):=BI;have vO:bo ((i:Int)+1)=((i+1:Nat):Int):=ix hi (mM);have et:jB (i+1)=jB i++[((i+1:Nat):Int)]:=by unfold jB;rw [PK,lX];rfl
 have eo:(cs.map (λ_=>lO)++List.replicate (i+1) oA).map fM=(cs.map (λ_=>lO)++List.replicate i oA).map fM++[Ga]:=by
  rw [List.replicate_succ',<-mu,lX];rfl
 have CF:i<(fx n l).length :=by rw [pH];exact hi
 have ek:sn::((fx n l).take (i+1)).map bL=sn::((fx n l).take i).map bL++[bL (jH n i l[i])]:=by
  rw [AY CF,lX,QR n l i hi];rfl
 have fin:E (λN m=>yh (FU CX EE N) N m [iI (n:Int),.U fH (l.map dT),iI (ln (l.map dT)),iI ((i+1:Nat):Int),aP,.U ak (ints (jB i)++[[iI ((i+1:Nat):Int)]]),.U bE ((cs.map (λ_=>lO)++List.replicate i oA).map fM++[Ga]),.U cT (sn::((fx n l).take i).map bL++[bL (jH n i l[i])]),.U dN pr]) (0,kP l.length aP n cs l pr):=by
  rw [<-ek,<-eo];have:ints (jB i)++[[iI ((i+1:Nat):Int)]]=ints (jB (i+1)):=by rw [et];unfold ints;rw [lX];rfl
  rw [this];exact ih
 generalize hx:l[i]=s at cO fin;refine bx WY (bj (ew hi) (aV (ey hi) (aV (eR) (aV (eR) ?_))));rw [eT hi,hx,my,hw,vO];refine ao (E5 _) (ao (qy _) ?_);refine ao (o:=(0,[.agg (dT s),.U aZ (([fv true (dS ((n+i:Nat):Int)),il (bB ((i+1:Nat):Int))]++s.uses.map eL).map aX)])) ?_ ?_
 ·erw [dx,dx];rw [<-YM,<-aqb];exact atS cO [fv true (dS ((n+i:Nat):Int)),il (bB ((i+1:Nat):Int))] (by simp)
 refine ao (o:=(0,[.agg (dT s),.U aZ ((mb s.deep (fv true (dS ((n+i:Nat):Int))) (il (bB ((i+1:Nat):Int))::s.uses.map eL)).map aX)])) ?_ ?_
 ·erw [my];exact ax3 s (fv true (dS ((n+i:Nat):Int))) (il (bB ((i+1:Nat):Int))::s.uses.map eL)
 refine ao (E5 _) (ao (qy s.per) ?_);refine ao (o:=(0,[.agg (dT s),.agg (bq (mz s.deep ((n+i:Nat):Int) s.per))])) ?_ ?_
 ·erw [my,dx,dx];have:=at0 s ((n+i:Nat):Int);rw [JF 5]at this;exact this
 refine ao (o:=(0,[.agg By,.U ax [bq (oi (mz s.deep ((n+i:Nat):Int) s.per))],.U aL [eM (ox ((n+i:Nat):Int))]])) ?_ ?_
 ·erw [dx];rw [<-Z6];exact xg _ _
 have hml:=PZ s.deep (fv true (dS ((n+i:Nat):Int))) (il (bB ((i+1:Nat):Int))::s.uses.map eL);have LG:=cO.len;refine aV ?_ (ao (qy 1) ?_)
 ·show decide ((((mb s.deep (fv true (dS ((n+i:Nat):Int))) (il (bB ((i+1:Nat):Int))::s.uses.map eL)).map aX).length +1)*272<=140737488355328)=true;rw [fI];rw [gE,fI]at hml;exact jQ (by omega)
 refine ao (o:=(0,[.agg (aX (ez (mb s.deep (fv true (dS ((n+i:Nat):Int))) (il (bB ((i+1:Nat):Int))::s.uses.map eL)++[cV ((n+i:Nat):Int) (oi (mz s.deep ((n+i:Nat):Int) s.per))])))])) ?_ ?_
 ·erw [wD];have:=BY (mb s.deep (fv true (dS ((n+i:Nat):Int))) (il (bB ((i+1:Nat):Int))::s.uses.map eL)++[cV ((n+i:Nat):Int) (oi (mz s.deep ((n+i:Nat):Int) s.per))]);rw [lX]at this;exact this
 refine ao (qy s.off) ?_;refine ao (o:=(0,[.agg By,.U ax [bq (bB s.off)],.U aL [eM (ox ((n+i:Nat):Int))]])) ?_ ?_
 ·erw [dx];exact xg _ _
 refine ao (o:=(0,[.agg (BZ [] [ed (.mk (cV ((n+i:Nat):Int) (bB s.off)) eK)]),.U aZ [aX (gk ((n+i:Nat):Int) i s)]])) ?_ ?_
 ·erw [wD,dx,iT];rw [<-Pb];exact Z5 _ _ (gk ((n+i:Nat):Int) i s)
 have es:jH n i s=⟨s.prio,[],oa ((n+i:Nat):Int) i s,s.dead⟩:=rfl;rw [es]at fin;unfold oa at fin;have aY:(sn::((fx n l).take i).map bL).length <=7:=by rw [gE,fI,lZ];omega
 refine aJ (c:=decide (1<Int.tmod s.deep 4)) (λh=> ?_) λh=> ?_
 ·rw [h]at fin;refine ao (qy s.off) ?_;refine ao (o:=(0,[.agg By,.U ax [bq (bB s.off)],.U aL [eM (ox ((n+i:Nat):Int))]])) ?_ ?_
  ·erw [dx];exact xg _ _
  refine ao (o:=(0,[.agg (aX (ez [cV ((n+i:Nat):Int) (bB s.off),gk ((n+i:Nat):Int) i s]))])) ?_ (aV ?_ ?_)
  ·erw [wD,dx,iT];rw [<-Pb];exact BY [cV ((n+i:Nat):Int) (bB s.off),gk ((n+i:Nat):Int) i s]
  ·simp only [fr];omega
  ·have ft:=Y8 s.prio (ez [cV ((n+i:Nat):Int) (bB s.off),gk ((n+i:Nat):Int) i s]) s.dead;simp only [da]at fin;rw [ft]at fin;exact fin
 ·rw [h]at fin;simp only [dj]at fin;rw [uC]at fin;refine aV ?_ fin;simp only [fr];omega
section
variable{cs:bW}
def jl(cs:bW):List PR:=cs.zipIdx.map λx=>⟨x.1,[(x.2:Int)],[]⟩
def oN(cs:bW):(jl cs).length =cs.length:=by simp [jl]
def Q0(cs:bW)(i:Nat)(h:i<cs.length):(jl cs)[i]'(by rw [oN];exact h)=⟨cs[i],[(i:Int)],[]⟩:=by simp [jl]
def dg(cs:bW)(l:List SC):PG:=⟨cs.map (λ_=>lO)++List.replicate l.length oA,4,⟨0,[],eZ (jB l.length) [] eK,0⟩::fx cs.length l,jl cs⟩
abbrev C4:AV:= .agg [.aa 1,iI 4,.aa 2,.aa 3]
def asD(iC:cs.length<=8):E (λN m=>DK (FU CX EE N) N m [.U ak (ints cs),iI (ln (ints cs)),iI 0,C4,.U bE [],.U cT [],.U dN []]) (0,[C4,.U bE ((cs.map (λ_=>lO)).map fM),.U cT [],.U dN ((jl cs).map ie)]):=by
 have k:=gy (m:=cs.length) (P:=λi=>E (λN m=>DK (FU CX EE N) N m [.U ak (ints cs),iI (ln (ints cs)),iI (i:Int),C4,.U bE (((cs.take i).map (λ_=>lO)).map fM),.U cT [],.U dN (((jl cs).take i).map ie)]) (0,[C4,.U bE ((cs.map (λ_=>lO)).map fM),.U cT [],.U dN ((jl cs).map ie)]))
  (by
    have e:(jl cs).take cs.length=jl cs:=AW (by rw [oN];exact dZ _);rw [Iq,e];exact bx Xc (aC eJ (ah rfl))) λi hi ih=>by
    have hpi:i<(jl cs).length :=by rw [oN];exact hi
    have e1:((cs.take (i+1)).map (λ_=>lO)).map fM=((cs.take i).map (λ_=>lO)).map fM++[TX]:=by
     rw [AY hi,lX,lX];rfl
    have e2:((jl cs).take (i+1)).map ie=((jl cs).take i).map ie++[[iI cs[i],.U ak [[iI (i:Int)]],.U ax []]]:=by
     rw [AY hpi,lX,Q0 cs i hi];rfl
    rw [e1,e2]at ih;refine bx Xc (bj (ew hi) (aV (ey hi) (aV ?_ (aV ?_ ?_))))
    ·rw [fI,fI,lZ];exact jQ (by omega)
    ·rw [fI,lZ,oN];exact jQ (by omega)
    ·rw [eT hi,ix hi (mM)];exact ih
 exact k
def apd(s:CS):setAt sn 2 (aX s)=bL ⟨0,[],s,0⟩:=by
 cases s with
 |mk f l d h a=>
  show _=iI 0:: .U pD []::(aX (.mk f l d h a)++[iI 0]);rw [uI];show _=_;exact l8
def asb{l:List SC}(hs:∀s∈l,s.Ok)(iC:cs.length<=8)(hl:l.length<=6):
 Ev O2 [.U fH (l.map dT),.U ak (ints cs)] (0,[.agg [.aa 0,iI 4,.aa 1,.aa 2],.U bE ((dg cs l).bZ.map fM),.U cT ((dg cs l).tasks.map bL),.U dN ((dg cs l).bS.map ie)]):=by
 have xV:E (λN _=>Om (FU CX EE N) N [.U ak (ints cs),C4,.U bE [],.U cT [],.U dN []]) (0,[C4,.U bE ((cs.map (λ_=>lO)).map fM),.U cT [],.U dN ((jl cs).map ie)]):=by
  refine cP amk ?_;exact ao (asD iC).diag (ah rfl)
 have kl:=asa (n:=cs.length) (cs:=cs) (l:=l) (pr:=(jl cs).map ie) hs iC iC hl;refine bu anN (ao xV ?_);refine ao (o:=(0,kP l.length aP cs.length cs l ((jl cs).map ie))) ?_ (ao BF (ao BF ?_))
 ·rw [show ln (ints cs)=(cs.length:Int)from fY _ _];have e0:(cs.map (λ_=>lO)++List.replicate 0 oA).map fM=(cs.map (λ_=>lO)).map fM:=by rw [List.replicate_zero,mv]
  unfold kP at kl;rw [e0]at kl;exact kl.diag
 erw [iT];refine ao (Qv (jB l.length) eK) (aV ?_ (aV ?_ (ah ?_)))
 ·show decide ((0:Int)<(((((fx cs.length l).take l.length).map bL).length +1:Nat):Int))=true;exact jQ (by omega)
 ·show decide (0<(((fx cs.length l).take l.length).map bL).length +1)=true;exact jQ (by omega)
 have et:(fx cs.length l).take l.length=fx cs.length l:=AW (by rw [pH];exact dZ _);have e1:(sn::((fx cs.length l).take l.length).map bL).set 0 (setAt (gA (sn::((fx cs.length l).take l.length).map bL) 0) 2 (sT (ab dw 0 (BZ (jB l.length) [])) [(17,.U aZ [aX eK])]))=(dg cs l).tasks.map bL:=by
  rw [et];have:=aaE (jB l.length) [] eK;rw [show([]:List CD).map ed=[]from rfl]at this;rw [this,List.set_cons_zero,show∀t:aH,gA (sn::t) 0=sn from λ_=>rfl,apd];rfl
 rw [<-e1];rfl
end
end Go.Proofs.YtffabbjfdgmbjaaGreat
namespace Go.ae
def PA:=@decide_eq_decide
end Go.ae
namespace Go.Proofs.YtffabbjfdgmbjaaGreat
open Go Go.ae C
def zA(cs:bW)(prio u:Int):Bool:=bif decide ((cs.length:Int)<=u)then true else decide (cs.getD u.toNat 0<prio)
def KC(s:SC):Bool:=decide (1<=s.prio)&&(decide (s.prio<=31)&&(decide (1<=s.per)&&(decide (s.per<=2147483647)&&(decide (0<=s.dead)&&(decide (s.dead<=s.per)&&(decide (0<=s.off)&&(decide (s.off<=2147483647)&&decide (s.uses.length<=10))))))))
def qY(cs:bW)(s:SC):Bool:= !(s.uses.any (zA cs s.prio))&&KC s
def ark{cs:bW}{s:SC}(hu:∀u∈s.uses,0<=u∧u<=255)(hl:s.uses.length<=9223372036854775807):Ev O0 [.agg (dT s),.U ak (ints cs)] (0,[.bool (qY cs s)]):=by
 have k:=JN (l:=s.uses) (p:=zA cs s.prio) (hit:=(0,[.bool false,.agg (dT s)])) (done:=(1,[.agg (dT s)])) (LF:=λi N m=>HV (FU CX EE N) N m [.U ak (ints cs),.U oM (ov s.uses),iI (ln (ov s.uses)),iI (i:Int),.agg (dT s)])
  (bx Xb (aC eJ (ah rfl)))
  λi hi r h1 h2=>bx Xb<|bj (ew hi)<|aV (ey hi)<|by
   have qL:=hu _ (eH hi);generalize hx:s.uses[i]=x at h1 h2 qL;rw [eT hi,hx,show gI [AV.int .u8 x] 0=x from rfl,QM qL,my,Y4 (i:=i) (by omega),show ln (ints cs)=(cs.length:Int)from fY _ _];unfold zA at h1 h2;refine aJ (c:=decide ((cs.length:Int)<=x)) (λh=>ah (h1 (iF))) λh=> ?_;rw [h]at h1 h2;have aY:x<(cs.length:Int):=jh;obtain⟨n,rfl⟩:∃n:Nat,x=(n:Int):=⟨x.toNat,by omega⟩;have hn:n<cs.length:=by omega
   refine aV (by rw [fI];exact oc hn) ?_;rw [EZ hn];exact aJ (c:=decide (cs.getD n 0<s.prio)) (λh3=>ah (h1 h3)) λh3=>h2 h3
 have j:E (λN _=>Oz (FU CX EE N) N [.U ak (ints cs),.agg (dT s)]) (bif s.uses.any (zA cs s.prio)then(1,[.bool false,.agg (dT s)])else(0,[.agg (dT s)])):=by
  refine cP amQ ?_;rw [my,show gR (dT s) 4=ov s.uses from rfl];refine ao k.diag ?_;cases s.uses.any (zA cs s.prio)with
  |true=>exact yN
  |false=>exact pR
 refine bu anL ?_;rw [my];refine ao j ?_;unfold qY;cases s.uses.any (zA cs s.prio)with
 |true=>exact pR
 |false=>
  refine bj rfl ?_;unfold KC;refine aJ (c:=decide (1<=s.prio)) (λa1=> ?_) λa1=>ah (by rw [a1];rfl);refine aJ (c:=decide (s.prio<=31)) (λa2=> ?_) λa2=>ah (by rw [a1,a2];rfl);refine aJ (c:=decide (1<=s.per)) (λa3=> ?_) λa3=>ah (by rw [a1,a2,a3];rfl);refine aJ (c:=decide (s.per<=2147483647)) (λa4=> ?_) λa4=>ah (by rw [a1,a2,a3,a4];rfl);refine aJ (c:=decide (0<=s.dead)) (λa5=> ?_) λa5=>ah (by rw [a1,a2,a3,a4,a5];rfl);refine aJ (c:=decide (s.dead<=s.per)) (λa6=> ?_) λa6=>ah (by rw [a1,a2,a3,a4,a5,a6];rfl);refine aJ (c:=decide (0<=s.off)) (λa7=> ?_) λa7=>ah (by rw [a1,a2,a3,a4,a5,a6,a7];rfl);refine aJ (c:=decide (s.off<=2147483647)) (λa8=>ah ?_) λa8=>ah (by rw [a1,a2,a3,a4,a5,a6,a7,a8];rfl);rw [a1,a2,a3,a4,a5,a6,a7,a8];show((0,[.bool (decide (ln (ov s.uses)<=10))]):UO)=(0,[.bool (decide (s.uses.length<=10))]);rw [fY,show decide (((s.uses.length:Nat):Int)<=10)=decide (s.uses.length<=10)by rw [PA];omega]
end Go.Proofs.YtffabbjfdgmbjaaGreat
namespace Go.ae
def acz{p:Prop}(h:p:=by exact⟨rfl,by show(0:Int)<=0;decide,by show(0:Int)<=31;decide,by show(0:Int)<=0;decide,by show(0:Int)<=2147483647;decide⟩):p:=h
def ES{p:Prop}(h:p:=by rw [wH];omega):p:=h
end Go.ae
namespace Go.Proofs.YtffabbjfdgmbjaaGreat
open Go Go.ae C
section
variable{l:List SC}{cs:bW}
def IQ{n:Nat}{t:TK}(h:t∈fx n l):∃i s,s∈l∧i<l.length∧t=jH n i s:=by
 unfold fx at h;obtain⟨⟨s,i⟩,hx,rfl⟩:=nV.1 h;have:=List.mem_zipIdx hx;refine⟨i,s,?_,by omega,rfl⟩;rw [this.2.2];exact eH _
structure RG(s:SC):Prop where
 p1:1<=s.prio
 p2:s.prio<=31
 e1:1<=s.per
 e2:s.per<=2147483647
 d1:0<=s.dead
 d2:s.dead<=s.per
 o1:0<=s.off
 o2:s.off<=2147483647
 len:s.uses.length<=10
def apm{s:SC}(h:KC s=true):RG s:=by
 unfold KC at h;simp only [bc,fr]at h;obtain⟨a1,a2,a3,a4,a5,a6,a7,a8,a9⟩:=h;exact⟨a1,a2,a3,a4,a5,a6,a7,a8,a9⟩
structure BL(cs:bW)(l:List SC):Prop where
 c1:cs.length<=8
 c2:∀c∈cs,0<=c∧c<=31
 l1:1<=l.length
 l2:l.length<=6
 rg:∀s∈l,RG s
 us:∀s∈l,∀u∈s.uses,0<=u∧u<(cs.length:Int)∧s.prio<=cs.getD u.toNat 0
def o1C:O1 lO:=⟨rfl,rfl,rfl,ea,ea,ea⟩
def o1T:O1 oA:=⟨rfl,rfl,rfl,ea,ea,ea⟩
def wH:(dg cs l).bZ.length =cs.length+l.length:=by simp [dg]
def RR(b:BL cs l):SP (dg cs l):=by
 have h1:=b.c1;have h2:=b.l1;have h3:=b.l2;refine⟨ES,ES,λo ho=> ?_,⟨by show(4:Int)<=4;decide,by show(4:Int)<=64;decide⟩,?_,?_,λt ht=> ?_,?_,?_,λi h=> ?_⟩
 ·rcases jS.1 ho with ho|ho
  ·obtain⟨_,_,rfl⟩:=nV.1 ho;exact o1C
  ·rw [Eh ho];exact o1T
 ·show 1<=(fx cs.length l).length +1;omega
 ·show(fx cs.length l).length +1<=32;rw [pH];omega
 ·rcases dA.1 ht with rfl|ht
  ·exact acz
  ·obtain⟨i,s,hs,_,rfl⟩:=IQ ht;have r:=b.rg s hs;have:=r.p1;have:=r.p2;have:=r.d1;have:=r.d2;have:=r.e2;exact⟨rfl,by show 0<=s.prio;omega,by show s.prio<=31;omega,by show 0<=s.dead;omega,by show s.dead<=2147483647;omega⟩
 ·show(jl cs).length <=32;rw [oN];omega
 ·rw [wH];show(jl cs).length <=_;rw [oN];omega
 ·have h':i<cs.length:=by have:i<(jl cs).length :=h;rw [oN]at this;exact this
  have e:(dg cs l).bS[i]=⟨cs[i],[(i:Int)],[]⟩:=Q0 cs i h';rw [e];have c:=b.c2 _ (eH h');exact⟨rfl,rfl,c.1,c.2⟩
end
end Go.Proofs.YtffabbjfdgmbjaaGreat
namespace Go.ae
def acq{p:Prop}(h:p:=by
 have h:y∈ [a,b]:=h;rcases dA.1 h with rfl|h
 ·exact ha
 ·rw [fB.1 h];exact hb):p:=h
def EP{p:Prop}(h:p:=by simp [CE.L]at h):p:=h
def abn{p:Prop}(h:p:=by
 have h:y∈ [a]:=h;rw [fB.1 h];exact ha):p:=h
end Go.ae
namespace Go.Proofs.YtffabbjfdgmbjaaGreat
open Go Go.ae C
section
variable{a b:CE}{o:Int}
structure TO(p:PG)(ro:List RO)(o:Int):Prop where
 slot:C.hZ p.bZ o 0=true
 ob:C.iw p.bZ o=oA
 ib:ib o ro.length=true
 may:∀w,pY ro w o=true
section
variable {p:PG} {ro:List RO} {w:WH}
def oP(n:Int):(bB n).Ok := .mk _ (dX _) λy h=>EP
def wE(o:Int):(dS o).Ok := .mk _ (dX _) λy h=>EP
def EC(ha:a.Ok)(hb:b.Ok):(sl a b).Ok := .mk _ (Bq) λy h=>acq
def I9(ha:a.Ok):(oi a).Ok := .mk _ (og) λy h=>abn
def QQ(n:Int):UE ro w (bB n):= .mk _ (λh=>by cases h) rfl rfl λy h=>EP
def Qs(t:TO p ro o):UE ro w (dS o):= .mk _ (λ_=>⟨t.ib,t.may w⟩) rfl rfl λy h=>EP
def aay(ha:UE ro w a)(hb:UE ro w b):UE ro w (sl a b):= .mk _ (λh=>by cases h) rfl rfl λy h=>acq
def aax(ha:UE ro w a):UE ro w (oi a):= .mk _ (λh=>by cases h) rfl rfl λy h=>abn
def uE{n:Int}(h: -2147483648<=n∧n<=2147483647):XE p ro w (bB n) ⟨false,n==0,[],n,n⟩:=⟨oP n,rfl,.num n h,QQ n⟩
def Qu(t:TO p ro o):SE p.bZ (dS o) ⟨false,false,[],0,2147483647⟩:=by
 have:=SE.slot (l:=p.bZ) o t.slot;rw [t.ob]at this;exact this
def ZO(t:TO p ro o):XE p ro w (dS o) ⟨false,false,[],0,2147483647⟩:=⟨wE o,rfl,Qu t,Qs t⟩
def axX(per o:Int):Lp (oi (sl (bB per) (dS o)))=true:=l8
def axW(per o:Int):Lp (oi (sl (dS o) (bB per)))=true:=l8
def aas{per d:Int}(t:TO p ro o)(h: -2147483648<=per∧per<=2147483647):XE p ro w (oi (mz d o per)) ⟨false,false,[],0,2147483647⟩:=by
 have r:(-2147483648:Int)<=0∧(2147483647:Int)<=2147483647∧(0:Int)<=2147483647:=ea;unfold mz;cases decide (1<Int.tmod d 4)with
 |true=>exact⟨I9 (EC (oP per) (wE o)),axX per o,.T5 0 2147483647 _ _ r (.bin 1 _ _ _ _ rfl (.num per h) (Qu t) rfl) rfl,aax (aay (QQ per) (Qs t))⟩
 |false=>exact⟨I9 (EC (wE o) (oP per)),axW per o,.T5 0 2147483647 _ _ r (.bin 1 _ _ _ _ rfl (Qu t) (.num per h) rfl) rfl,aax (aay (Qs t) (QQ per))⟩
end
end
section
variable{d o:Int}{w:WH}
structure CO(p:PG)(ro:List RO)(u:Int):Prop where
 slot:C.hZ p.bZ u 0=true
 ob:C.iw p.bZ u=lO
 ib:ib u ro.length=true
 may:∀w,pY ro w u=gQ w.jf u
 r0:0<=u
 r1:u<(p.bS.length:Int)
structure Wd(w:WH)(d:Int):Prop where
 mk':w.marks=[]∧w.yV=[]∧w.uD=[]
 act:w.jf=[]
 xM:w.loops=[]
 un:w.rb=false
 d0:0<=w.deep
 d1:w.deep<=d
theorem Wd.ok(h:Wd w d):w.Ok:=by
 obtain⟨⟨a,b,c⟩,e,f,_⟩:=h;exact⟨by rw [a];decide,by rw [b];decide,by rw [c];decide,by rw [e];decide,by rw [f];decide⟩
theorem Wd.dp(h:Wd w d):Wd (iE w) (d+1):=⟨h.mk',h.act,h.xM,h.un,by have:=h.d0;show 0<=w.deep+1;omega,by have:=h.d1;show w.deep+1<=d+1;omega⟩
theorem Wd.hd{w:WH}{d:Int}(h:Wd w d)(hd:d<64):0<=w.deep∧w.deep<64:=⟨h.d0,by have:=h.d1;omega⟩
section
variable {p:PG} {ro:List RO} {cn:aH} (hc:au (aq cn)=cn)
include hc
theorem acV(h:Wd w d)(hd:d<62){u:Int}(t:CO p ro u):AC p ro cn w (eL u):=by
 have h1:=h.dp;have hi:=h1.d0;have hj:=h1.d1;refine aqW hc (h.hd (by omega)) h.ok t.r0 t.r1 h.act ?_;have hw:(Lc (iE w) u).Ok :=by
  obtain⟨⟨a,b,c⟩,e,f,_⟩:=h;refine⟨by show([]:bW).length <=1000;decide,by show w.yV.length<=1000;rw [b];decide,by show w.uD.length<=1000;rw [c];decide,by show(w.jf++[u]).length <=1000;rw [e];show(1:Nat)<=1000;decide,by show w.loops.length<=1000;rw [f];decide⟩
 refine acW (w:=Lc (iE w) u) hc ⟨hi,by show(iE w).deep <64;omega⟩ hw t.slot t.ib ?_ ?_ (uE (n:=3) (ea)) (by rw [t.ob]) (by rw [t.ob];rfl)
 ·rw [t.may];show gQ (w.jf++[u]) u=true;rw [h.act];simp [gQ]
 ·show gQ w.loops u=false;rw [h.xM];rfl
theorem Bg(h:Wd w d)(hd:d<64)(t:TO p ro o){e:CE}{s:SO}(hx:XE p ro w e s)(hf:C.vr s oA=true):AC p ro cn w (cV o e):=
 acW hc (h.hd hd) h.ok t.slot t.ib (t.may w) (by rw [h.xM];rfl) hx (by rw [t.ob]) (by rw [t.ob];exact hf)
theorem asm(h:Wd w d)(hd:d<58)(t:TO p ro o){i:Nat}(hi:i<=6){us:bW}(hu:∀u∈us,CO p ro u)(LG:us.length<=10)(dp:Int):∀s∈mb dp (fv true (dS o)) (il (bB ((i+1:Nat):Int))::us.map eL),AC p ro cn w s:=by
 have b1:AC p ro cn w (fv true (dS o)):=Qp hc (h.hd (by omega)) h.ok h.act h.un (ZO t) rfl;have rest:∀{w:WH} {d:Int},Wd w d->d<62->∀s∈il (bB ((i+1:Nat):Int))::us.map eL,AC p ro cn w s:=λh hd s hs=>by
  rcases dA.1 hs with rfl|hs
  ·exact asl hc (h.hd (by omega)) h.ok h.act h.un (uE (by omega)) rfl
  ·obtain⟨u,jW,rfl⟩:=nV.1 hs;exact acV hc h hd (hu u jW)
 unfold mb;cases Int.tmod dp 2==1 with
 |false=>
  intro s hs;rcases dA.1 hs with rfl|hs
  ·exact b1
  ·exact rest h (by omega) s hs
 |true=>
  intro s hs;rcases dA.1 hs with rfl|hs
  ·exact b1
  ·rw [fB.1 hs];have h2:Wd (Cp (iE w)) (d+1):=⟨h.mk',h.act,h.xM,h.un,h.dp.d0,h.dp.d1⟩;refine Qo hc (h.hd (by omega)) (dX _) (λd h=>dB) (JH hc (h2.hd (by omega)) ?_ (rest h2.dp (by omega)));rw [gE,fI];simp only [mx];omega
end
end
section
variable{d o:Int}{i:Nat}{s:SC}{w:WH}
section
variable {p:PG} {ro:List RO} {cn:aH} (hc:au (aq cn)=cn)
include hc
theorem aaq(h:Wd w d)(hd:d<50)(t:TO p ro o)(hi:i<=6)(r:RG s)(hu:∀u∈s.uses,CO p ro u):AC p ro cn w (gk o i s):=by
 have CJ:=r.e1;have z0:=r.e2;refine ZN hc (h.hd (by omega)) h.ok (uE (n:=1) (ea)) rfl (JH hc (h.dp.hd (by omega)) ?_ λx hx=> ?_)
 ·have:=PZ s.deep (fv true (dS o)) (il (bB ((i+1:Nat):Int))::s.uses.map eL);have hl:=r.len;rw [gE,fI]at this;rw [fC,gE,lz];exact mM
 ·rcases jS.1 hx with hx|hx
  ·exact asm hc h.dp.dp (by omega) t hi hu r.len s.deep x hx
  ·rw [fB.1 hx];exact Bg hc h.dp.dp (by omega) t (aas t (by omega)) rfl
theorem apU(h:Wd w d)(hd:d<40)(t:TO p ro o)(hi:i<=6)(r:RG s)(hu:∀u∈s.uses,CO p ro u):AC p ro cn w (oa o i s):=by
 have o1:=r.o1;have o2:=r.o2;have hf:C.vr ⟨false,s.off==0,[],s.off,s.off⟩ oA=true:=by
  show(bif decide ((0:Int)<=s.off)then decide (s.off<=2147483647)else false)=true;rw [jQ o1,jQ o2];rfl
 unfold oa;cases decide (1<Int.tmod s.deep 4)with
 |true=>
  refine JH hc (h.hd (by omega)) (Bq) λx hx=> ?_;rcases dA.1 hx with rfl|hx
  ·exact Bg hc h.dp (by omega) t (uE (by omega)) hf
  ·rw [fB.1 hx];exact aaq hc h.dp (by omega) t hi r hu
 |false=>
  have h1:=h.dp;have UY:Wd (rM (iE w)) (d+1):=⟨⟨rfl,h.mk'.2.1,h.mk'.2.2⟩,h.act,h.xM,h.un,h1.d0,h1.d1⟩;have lv:Wd (Cp (iE w)) (d+1):=⟨h.mk',h.act,h.xM,h.un,h1.d0,h1.d1⟩;refine Qo hc (h.hd (by omega)) (by show(1:Nat)<=256;decide) (λx hx=> ?_) (aaq hc lv (by omega) t hi r hu);rw [fB.1 hx];exact⟨Bg hc UY (by omega) t (uE (by omega)) hf,I5 hc ⟨h1.d0,by show(iE w).deep <64;have:=h1.d1;omega⟩⟩
end
end
end Go.Proofs.YtffabbjfdgmbjaaGreat
namespace Go.ae
def aaS{p:Prop}(h:p:=by rw [ap8];exact oc (by omega)):p:=h
end Go.ae
namespace Go.Proofs.YtffabbjfdgmbjaaGreat
open Go Go.ae C
section
variable{i n:Nat}
def Z0{l:List OB}(h:n<l.length)(hs:(C.iw l (n:Int)).size =1):C.hZ l (n:Int) 0=true:=by
 unfold C.hZ;rw [jQ (show(0:Int)<=(n:Int)by omega),jQ (show(n:Int)<(l.length:Int)by omega),hs];rfl
def ade{l:List OB}(h:n<l.length):C.iw l (n:Int)=l[n]:=by simp [C.iw,List.getD,h]
section
variable {cs:bW} {l:List SC}
def aan(hi:i<l.length):C.iw (dg cs l).bZ ((cs.length+i:Nat):Int)=oA:=by
 show C.iw (cs.map (λ_=>lO)++List.replicate l.length oA) ((cs.length+i:Nat):Int)=oA;rw [ade (eR),List.getElem_append_right (by simp)];exact List.getElem_replicate _
def aao(hi:i<cs.length):C.iw (dg cs l).bZ (i:Int)=lO:=by
 show C.iw (cs.map (λ_=>lO)++List.replicate l.length oA) (i:Int)=lO;rw [ade (eR),List.getElem_append_left (yL)];simp
def ap8:(gY (dg cs l)).length =cs.length+l.length:=by
 show(kQ (jl cs).length (dg cs l).bZ.length).length =_;rw [Qw (by rw [wH,oN];omega),wH]
def aaH(hi:i<cs.length+l.length):oV (gY (dg cs l)) (i:Int)=if i<cs.length then⟨(i:Int),-1,-1⟩else qG:=by
 unfold oV;show(kQ (jl cs).length (dg cs l).bZ.length).getD i qG=_;rw [aaG (by rw [wH];exact hi) (by rw [wH,oN];omega),oN]
def asg(hi:i<l.length):TO (dg cs l) (gY (dg cs l)) ((cs.length+i:Nat):Int):=by
 refine⟨Z0 (ES) (by rw [aan hi]),aan hi,aaS,λw=> ?_⟩;unfold pY;rw [aaH (by omega),if_neg (by omega)];rfl
def ash(hi:i<cs.length):CO (dg cs l) (gY (dg cs l)) (i:Int):=by
 refine⟨Z0 (ES) (by rw [aao hi]),aao hi,aaS,λw=> ?_,by omega,?_⟩
 ·unfold pY;rw [aaH (by omega),if_pos hi];show(bif decide ((0:Int)<=(i:Int))then gQ w.jf (i:Int)else _)=_;rw [jQ (show(0:Int)<=(i:Int)by omega)];rfl
 ·show(i:Int)<((jl cs).length :Int);rw [oN];omega
end
end
def aqn(us:bW):cc (us.map eL)=2*us.length:=by
 induction us with
 |nil=>rfl
 |cons u us ih=>
  rw [fW,gE];show aE (eL u)+cc (us.map eL)=_;rw [ih,show aE (eL u)=2 from rfl];omega
def arA(d:Int)(b:CS)(l:List CS):cc (mb d b l)<=aE b+cc l+2:=by
 unfold mb;cases Int.tmod d 2==1 with
 |false=>show aE b+cc l<=_;omega
 |true=>
  show aE b+(aE (eZ [] [] (ez l))+0)<=_;rw [ta];show aE b+(1+(0+((aE (ez l)+0)+(0+0)))+0)<=_;rw [ta];show aE b+(1+(0+((1+(0+(cc l+(0+0)))+0)+(0+0)))+0)<=_;omega
def aqo(o:Int)(i:Nat)(s:SC)(h:s.uses.length<=10):aE (gk o i s)<=30:=by
 unfold gk;rw [ta];show 1+(0+((aE (ez _)+0)+(0+0)))<=30;rw [ta,Zn];have h1:=arA s.deep (fv true (dS o)) (il (bB ((i+1:Nat):Int))::s.uses.map eL);have h2:cc (il (bB ((i+1:Nat):Int))::s.uses.map eL)=1+cc (s.uses.map eL):=rfl;rw [h2,aqn,show aE (fv true (dS o))=1 from rfl]at h1;show 1+(0+((1+(0+((cc (mb _ _ _)+(1+0))+(0+0)))+0)+(0+0)))<=30;omega
def aps(o:Int)(i:Nat)(s:SC)(h:s.uses.length<=10):aE (oa o i s)<=40:=by
 have h1:=aqo o i s h;unfold oa;cases decide (1<Int.tmod s.deep 4)with
 |true=>
  show aE (ez _)<=40;rw [ta];show 1+(0+((1+(aE (gk o i s)+0))+(0+0)))<=40;omega
 |false=>
  show aE (eZ [] _ _)<=40;rw [ta];show 1+((2+0)+((aE (gk o i s)+0)+(0+0)))<=40;omega
def aaA{α:Type}(g:α->Nat)(k:Nat):∀l:List α,(∀x∈l,g x<=k)->(l.map g).sum <=k*l.length
 | [],_=>by simp
 |x::l,h=>by
  have h1:=h x dI;have h2:=aaA g k l λy hy=>h y (eQ _ hy);rw [fW,nk,gE,Nat.mul_add];omega
def RS{cs:bW}{l:List SC}(b:BL cs l):((dg cs l).tasks.map λt=>aE t.body).sum <=300:=by
 have h:=aaA (λt:TK=>aE t.body) 40 (fx cs.length l) λt ht=>by
  obtain⟨i,s,hs,_,rfl⟩:=IQ ht;exact aps _ _ _ (b.rg s hs).len
 rw [pH]at h;have hl:=b.l2;show aE (eZ (jB l.length) [] eK)+((fx cs.length l).map λt=>aE t.body).sum <=300;have e:aE (eZ (jB l.length) [] eK)=2:=by rw [ta];rfl
 rw [e];omega
end Go.Proofs.YtffabbjfdgmbjaaGreat
namespace Go.ae
def aa8{p:Prop}(h:p:=by rw [fI,yC];simp only [mx];omega):p:=h
def aa7{p:Prop}(h:p:=by show(iE (w0 0)).deep <64;have:=hw.d1;omega):p:=h
end Go.ae
namespace Go.Proofs.YtffabbjfdgmbjaaGreat
open Go Go.ae C
section
variable{l:List SC}{cs:bW}
def Bw(t:Nat):Wd (w0 t) 0:=⟨⟨rfl,rfl,rfl⟩,rfl,rfl,rfl,A7 _,A7 _⟩
def aq0{n:Nat}(h:n<=32):nG (jB n) 1 (n:Int)=true:=by
 have:∀m:Nat,m<=32->nG (jB m) 1 (m:Int)=true:=ea;exact this n h
def ase(b:BL cs l):SQ (dg cs l) (eZ (jB l.length) [] eK) (fx cs.length l):=by
 have h1:=b.l1;have h2:=b.l2;have hc:=rj l.length;refine⟨⟨_,rfl,rfl⟩,by have:=RS b;omega,?_,λi hi=> ?_⟩
 ·rw [pH];have hw:=(Bw 0).dp;refine Qc (rj 0) hc ((Bw 0).hd (ea)) (JJ rfl rfl rfl) (dX _) (aa8) (aaz (by omega)) ?_ (λd h=>dB) (I5 hc ⟨hw.d0,aa7⟩);have e1:bo ((w0 0).task +1)=1:=rfl;have e2:bo (ln ((dg cs l).tasks.map bL)- 1)=(l.length:Int):=by
   rw [fY];have:(dg cs l).tasks.length =l.length+1:=by show(fx cs.length l).length +1=_;rw [pH]
   rw [this,pI (by omega) (by omega)];omega
  rw [e1,e2];exact aq0 (by omega)
 ·have fN:i<l.length:=by rw [pH]at hi;exact hi
  rw [pH,QR cs.length l i fN];have hm:=eH fN;refine apU hc (Bw (i+1)) (ea) (asg fN) (by omega) (b.rg _ hm) λu hu=> ?_;obtain⟨u0,u1,_⟩:=b.us _ hm u hu;obtain⟨n,rfl⟩:∃n:Nat,u=(n:Int):=⟨u.toNat,by omega⟩;exact ash (by omega)
def aqP(b:BL cs l):Ev um [.agg (fG (dg cs l))] (0,[.bool true]):=afy (RR b) (ase b)
end
end Go.Proofs.YtffabbjfdgmbjaaGreat
namespace Go.ae
def BG{p:Prop}(h:p:=by rw [fB.1 hx];exact h):p:=h
end Go.ae
namespace Go.Proofs.YtffabbjfdgmbjaaGreat
open Go Go.ae C
section
variable{s:CS}{o:Int}{d:List CD}{l:List CS}
section
variable {no np:Nat}
def vA{f:dW}(h:sM no np (.mk f l d [] []))(hl:∀x∈l,x.Sh no np)(hd:∀x∈d,x.d.Sh no np∧x.u.Sh no np):CS.Sh no np (.mk f l d [] []):= .mk _ h λy hy=>by
 simp only [CS.kids,CS.D,CS.L,CS.H,CS.A,wy,IN,mv,jS,A8,dA,Qf,or_false]at hy;rcases hy with⟨x,hx,rfl|rfl⟩|hy
 ·exact(hd x hx).1
 ·exact(hd x hx).2
 ·exact hl y hy
def Iv:CS.Sh no np eK:=vA ⟨λh=>(by cases h),λh=>(by cases h),λh=>(by cases h),λh=>(by cases h),λh=>(by cases h)⟩ (λx h=>dB) λx h=>dB
def IT(h:∀x∈l,x.Sh no np):CS.Sh no np (ez l):=vA ⟨λh=>(by cases h),λh=>(by cases h),λh=>(by cases h),λh=>(by cases h),λh=>(by cases h)⟩ h λx h=>dB
def ap2(e:CE):CS.Sh no np (il e):=vA ⟨λh=>(by cases h),λh=>(by cases h),λh=>(by cases h),λh=>(by cases h),λh=>(by cases h)⟩ (λx h=>dB) λx h=>dB
def Yp(e:CE)(h:s.Sh no np):CS.Sh no np (jw e s):=vA ⟨λh=>(by cases h),λ_=>⟨rfl,rfl⟩,λh=>(by cases h),λh=>(by cases h),λh=>(by cases h)⟩ (λx hx=>BG) λx h=>dB
def DX{ts:bW}(h:s.Sh no np)(hd:∀x∈d,x.d.Sh no np∧x.u.Sh no np):CS.Sh no np (eZ ts d s):=vA ⟨λ_=>rfl,λh=>(by cases h),λh=>(by cases h),λh=>(by cases h),λh=>(by cases h)⟩ (λx hx=>BG) hd
def ao9{q:Int}(h:s.Sh no np)(h0:0<=q∧q<(np:Int)):CS.Sh no np (yY q s):=vA ⟨λh=>(by cases h),λh=>(by cases h),λh=>(by cases h),λh=>(by cases h),λ_=>h0⟩ (λx hx=>BG) λx h=>dB
def Yq{u:Bool}(h0:0<=o∧o<(no:Int)):CS.Sh no np (fv u (dS o)):=vA ⟨λh=>(by cases h),λh=>(by cases h),λh=>(by cases h),λ_=>⟨rfl,λe he _=>by rw [fB.1 he];exact h0⟩,λh=>(by cases h)⟩ (λx h=>dB) λx h=>dB
def Z4{e:CE}(h:(e.kind=9->e.L.length=1)∧(e.kind=5->e.L.length=2)∧∀y∈e.L,y.kind=5->y.L.length=2):CS.Sh no np (cV o e):=vA ⟨λh=>(by cases h),λh=>(by cases h),λ_=>⟨rfl,rfl,λx hx=>BG⟩,λh=>(by cases h),λh=>(by cases h)⟩ (λx h=>dB) λx h=>dB
end
end
section
variable{o:Int}{i:Nat}{s:SC}
section
variable {no np:Nat}
def Ek(n:Int):CS.Sh no np (cV o (bB n)):=Z4 ⟨λh=>(by cases h),λh=>(by cases h),λy h=>EP⟩
def Z2{u:Int}(h:0<=u∧u<(np:Int)):CS.Sh no np (eL u):=ao9 (Ek 3) h
def Z3(o d per:Int):CS.Sh no np (cV o (oi (mz d o per))):=by
 refine Z4 ⟨λ_=>rfl,λh=>(by cases h),λy hy _=> ?_⟩;rw [fB.1 (show y∈ [mz d o per]from hy)];unfold mz;cases decide (1<Int.tmod d 4)<;>rfl
def ap3{d:Int}{b:CS}{l:List CS}(hb:b.Sh no np)(hl:∀x∈l,x.Sh no np):∀x∈mb d b l,x.Sh no np:=by
 unfold mb;cases Int.tmod d 2==1 with
 |false=>
   intro x hx;rcases dA.1 hx with rfl|hx
   ·exact hb
   ·exact hl x hx
 |true=>
   intro x hx;rcases dA.1 hx with rfl|hx
   ·exact hb
   ·rw [fB.1 hx];exact DX (IT hl) λx h=>dB
def Zc(ho:0<=o∧o<(no:Int))(hu:∀u∈s.uses,0<=u∧u<(np:Int)):CS.Sh no np (gk o i s):=by
 refine Yp _ (IT λx hx=> ?_);rcases jS.1 hx with hx|hx
 ·refine ap3 (Yq ho) (λy hy=> ?_) x hx;rcases dA.1 hy with rfl|hy
  ·exact ap2 _
  ·obtain⟨u,jW,rfl⟩:=nV.1 hy;exact Z2 (hu u jW)
 ·rw [fB.1 hx];exact Z3 _ _ _
def aos(ho:0<=o∧o<(no:Int))(hu:∀u∈s.uses,0<=u∧u<(np:Int)):CS.Sh no np (oa o i s):=by
 unfold oa;cases decide (1<Int.tmod s.deep 4)with
 |true=>
   refine IT λx hx=> ?_;rcases dA.1 hx with rfl|hx
   ·exact Ek _
   ·rw [fB.1 hx];exact Zc ho hu
 |false=>
   refine DX (Zc ho hu) λx hx=> ?_;rw [fB.1 hx];exact⟨Ek _,Iv⟩
end
end
section
variable{e:CE}{s:CS}{P:CS->Prop}{o q:Int}{d:List CD}{l:List CS}{ts:bW}
def J7(h:e.Ok):xy [e]:=⟨og,λx hx=>BG⟩
def w8:xy []:=⟨dX _,λx hx=>tc⟩
def wU:Le []:=⟨dX _,λx hx=>tc⟩
def ya{k n t en:Int}{a b c d e:Bool}{es:List CE}{to:List PL}(h1:xy es)(h2:Le to)(h3:ts.length<=mx):dW.Ok ⟨k,n,o,t,q,en,a,b,c,d,e,0,es,[],to,[],ts⟩:=⟨h1,w8,h2,wU,h3,A7 _⟩
def xw{f:dW}(hf:f.Ok)(hl:l.length<=mx)(hd:d.length<=mx)(h1:∀x∈l,x.Ok)(h2:∀x∈d,x.d.Ok∧x.u.Ok):CS.Ok (.mk f l d [] []):= .mk _ hf hl hd (dX _) (dX _) (λx hx=>by simp [CS.H]at hx) (λx hx=>by simp [CS.A]at hx) λy hy=>by
 simp only [CS.kids,CS.D,CS.L,CS.H,CS.A,wy,IN,mv,jS,A8,dA,Qf,or_false]at hy;rcases hy with⟨x,hx,rfl|rfl⟩|hy
 ·exact(h2 x hx).1
 ·exact(h2 x hx).2
 ·exact h1 y hy
def qt{P:CD->Prop}:∀x∈([]:List CD),P x:=λx h=>dB
def JR:∀x∈([]:List CS),P x:=λx h=>dB
def IW:CS.Ok eK:=xw (ya w8 wU (dX _)) (dX _) (dX _) JR qt
def I8(hl:l.length<=mx)(h:∀x∈l,x.Ok):CS.Ok (ez l):=xw (ya w8 wU (dX _)) hl (dX _) h qt
def yF(h:e.Ok):CS.Ok (cV o e):=xw (ya (J7 h) ⟨og,λx hx=>by rw [fB.1 hx];exact w8⟩ (dX _)) (dX _) (dX _) JR qt
def aru(h:e.Ok):CS.Ok (il e):=xw (ya (J7 h) wU (dX _)) (dX _) (dX _) JR qt
def PX{u:Bool}(h:e.Ok):CS.Ok (fv u e):=xw (ya (J7 h) wU (dX _)) (dX _) (dX _) JR qt
def R1(h:P s):∀x∈ [s],P x:=λx hx=>BG
def Zm(h:e.Ok)(hs:s.Ok):CS.Ok (jw e s):=xw (ya (J7 h) wU (dX _)) (og) (dX _) (R1 hs) qt
def aql(hs:s.Ok):CS.Ok (yY q s):=xw (ya w8 wU (dX _)) (og) (dX _) (R1 hs) qt
def Ed(ht:ts.length<=mx)(hd:d.length<=mx)(hs:s.Ok)(h:∀x∈d,x.d.Ok∧x.u.Ok):CS.Ok (eZ ts d s):=xw (ya w8 wU ht) (og) hd (R1 hs) h
end
section
variable{s:SC}
def aaL(u:Int):CS.Ok (eL u):=aql (yF (oP 3))
def art(d o per:Int):(mz d o per).Ok :=by
 unfold mz;cases decide (1<Int.tmod d 4)with
 |true=>exact EC (oP per) (wE o)
 |false=>exact EC (wE o) (oP per)
def arv{d:Int}{b:CS}{l:List CS}(hl:l.length<=20)(hb:b.Ok)(h:∀x∈l,x.Ok):∀x∈mb d b l,x.Ok:=by
 unfold mb;cases Int.tmod d 2==1 with
 |false=>
  intro x hx;rcases dA.1 hx with rfl|hx
  ·exact hb
  ·exact h x hx
 |true=>
  intro x hx;rcases dA.1 hx with rfl|hx
  ·exact hb
  ·rw [fB.1 hx];exact Ed (dX _) (dX _) (I8 (mM) h) qt
def Z9(o:Int)(i:Nat)(h:s.uses.length<=10):CS.Ok (gk o i s):=by
 have hm:=PZ s.deep (fv true (dS o)) (il (bB ((i+1:Nat):Int))::s.uses.map eL);rw [gE,fI]at hm;refine Zm (oP 1) (I8 ?_ λx hx=> ?_)
 ·rw [fC,gE,lz];simp only [mx];omega
 ·rcases jS.1 hx with hx|hx
  ·refine arv (by rw [gE,fI];omega) (PX (wE o)) (λy hy=> ?_) x hx;rcases dA.1 hy with rfl|hy
   ·exact aru (oP _)
   ·obtain⟨u,_,rfl⟩:=nV.1 hy;exact aaL u
  ·rw [fB.1 hx];exact yF (I9 (art _ _ _))
def apr(o:Int)(i:Nat)(h:s.uses.length<=10):CS.Ok (oa o i s):=by
 unfold oa;cases decide (1<Int.tmod s.deep 4)with
 |true=>
  refine I8 (Bq) λx hx=> ?_;rcases dA.1 hx with rfl|hx
  ·exact yF (oP _)
  ·rw [fB.1 hx];exact Z9 o i h
 |false=>
  refine Ed (dX _) (og) (Z9 o i h) λx hx=> ?_;rw [fB.1 hx];exact⟨yF (oP _),IW⟩
end
section
variable{l:List SC}{cs:bW}
def asf(b:BL cs l):(dg cs l).Ok :=by
 have h1:=b.c1;have h2:=b.l2;refine⟨by rw [wH];simp only [mx];omega,λo ho=> ?_,by show(fx cs.length l).length +1<=mx;rw [pH];simp only [mx];omega,λt ht=> ?_,by show(jl cs).length <=mx;rw [oN];simp only [mx];omega,λq hq=> ?_⟩
 ·have:=((RR b).o3 o ho).set;show o.set.length<=mx;rw [this];exact dX _
 ·rcases dA.1 ht with rfl|ht
  ·exact⟨dX _,λe he=>Bl,Ed (aa8) (dX _) IW qt⟩
  ·obtain⟨i,s,hs,_,rfl⟩:=IQ ht;exact⟨dX _,λe he=>by simp [jH]at he,apr _ _ (b.rg s hs).len⟩
 ·obtain⟨x,_,rfl⟩:=nV.1 (show q∈cs.zipIdx.map _ from hq);exact⟨og,w8⟩
def apR(b:BL cs l):tL (dg cs l):=by
 refine⟨asf b,by have:=RS b;simp only [md];omega,λt ht=> ?_⟩;rcases dA.1 ht with rfl|ht
 ·exact DX Iv qt
 ·obtain⟨i,s,hs,hi,rfl⟩:=IQ ht;refine aos ⟨by omega,ES⟩ λu hu=> ?_;obtain⟨a,c,_⟩:=b.us s hs u hu;exact⟨a,by show u<((jl cs).length :Int);rw [oN];exact c⟩
def aoR(b:BL cs l):Ev vX [.agg (fG (dg cs l))] (0,[iI (kv (dg cs l)).1,.U dY ((kv (dg cs l)).2.map nI)]):=
 RN (apR b) (by show 0<(fx cs.length l).length +1;omega) (aqP b)
end
end Go.Proofs.YtffabbjfdgmbjaaGreat
namespace Go.ae
def Pr:=@List.flatMap_append
end Go.ae
namespace Go.Proofs.YtffabbjfdgmbjaaGreat
open Go Go.ae C
section
variable{o p:Int}{s:SC}
theorem ID{α β:Type}{f g:α->List β}:∀{l:List α},(∀x∈l,f x=g x)->l.flatMap f=l.flatMap g
 | [],_=>rfl
 |x::l,h=>by
  rw [kZ,kZ,h x (dI ..),ID λy hy=>h y (eQ _ hy)]
theorem apn(m:Nat):∀x:NB,aE x.1<=m->pre m x=tK x:=by
 induction m using Nat.strongRecOn with
 |ind m ih=>
  intro x h;have h1:=n7 x.1;obtain⟨k,hk⟩:∃k,aE x.1=k+1:=⟨aE x.1- 1,by omega⟩;obtain⟨j,rfl⟩:∃j,m=j+1:=⟨m- 1,by omega⟩;unfold tK;rw [hk];show x::(cg x).flatMap (pre j)=x::(cg x).flatMap (pre k);rw [ID λy hy=> ?_];have:=(Ig hy).2.2.2;rw [ih j (by omega) y (by omega),ih k (by omega) y (by omega)]
theorem aqR(x:NB):tK x=x::(cg x).flatMap tK:=by
 have h1:=n7 x.1;obtain⟨k,hk⟩:∃k,aE x.1=k+1:=⟨aE x.1- 1,by omega⟩;show pre (aE x.1) x=_;rw [hk];show x::(cg x).flatMap (pre k)=_;rw [ID λy hy=>apn k y (by have:=(Ig hy).2.2.2;omega)]
def cA(g:CS->bW)(n:Nat)(s:CS):bW:=(tK (s,n)).flatMap λx=>g x.1
def cL(g:CS->bW)(n:Nat)(l:List CS):bW:=((cu n l).flatMap tK).flatMap λx=>g x.1
section
variable (g:CS->bW) (n:Nat)
theorem wQ:cL g n []=[]:=rfl
theorem nq(s:CS)(l:List CS):cL g n (s::l)=cA g n s++cL g (n+aE s) l:=by
 unfold cL cA;rw [show cu n (s::l)=(s,n)::cu (n+aE s) l from rfl,kZ,Pr]
theorem acT(a b:List CS):cL g n (a++b)=cL g n a++cL g (n+cc a) b:=by
 unfold cL;rw [Ec,Pr,Pr]
theorem aei(s:CS):cA g n s=g s++cL g (n+1) s.kids:=by
 unfold cL cA;rw [aqR,kZ];rfl
theorem Cd(f:dW)(l:List CS):cA g n (.mk f l [] [] [])=g (.mk f l [] [] [])++cL g (n+1) l:=by
 rw [aei,show(CS.mk f l [] [] []).kids =l++[]from rfl,mv]
theorem rA(f:dW):cA g n (.mk f [] [] [] [])=g (.mk f [] [] [] []):=by rw [Cd,wQ,mv]
theorem F9(f:dW)(s:CS):cA g n (.mk f [s] [] [] [])=g (.mk f [s] [] [] [])++cA g (n+1) s:=by rw [Cd,nq,wQ,mv]
theorem ayV(f:dW)(d u s:CS):cA g n (.mk f [s] [.mk d u] [] [])=g (.mk f [s] [.mk d u] [] [])++(cA g (n+1) d++(cA g (n+1+aE d) u++cA g (n+1+aE d+aE u) s)):=by
 rw [aei,show(CS.mk f [s] [.mk d u] [] []).kids =[d,u,s]from rfl,nq,nq,nq,wQ,mv]
end
def u7(d:Int)(l:List CS):List CS:=bif Int.tmod d 2==1 then [eZ [] [] (ez l)]else l
theorem arC(d:Int)(b:CS)(l:List CS):mb d b l=b::u7 d l:=by unfold mb u7;cases Int.tmod d 2==1<;>rfl
def lC(o:Int)(i:Nat)(s:SC):List CS:=u7 s.deep (il (bB ((i+1:Nat):Int))::s.uses.map eL)++[cV o (oi (mz s.deep o s.per))]
theorem Zr(o:Int)(i:Nat)(s:SC):gk o i s=jw (bB 1) (ez (fv true (dS o)::lC o i s)):=by unfold gk lC;rw [arC];rfl
def hG(o:Int)(s:CS):bW:=bif FP o s then [0]else []
def lG(s:CS):bW:=bif s.f.kind==20 then [s.f.P]else []
theorem JC(o p:Int)(e:CE):hG o (cV p e)=bif p==o then [0]else []:=rfl
theorem Qz{o:Int}:∀{l:bW} (n:Nat),(∀u∈l,u≠o)->cL (hG o) n (l.map eL)=[]
 | [],n,_=>rfl
 |u::l,n,h=>by
  have hu:(u==o)=false:=by simpa using h u (dI ..)
  rw [fW,nq,Qz _ λv hv=>h v (eQ _ hv)];unfold eL;rw [F9,rA,JC,hu];rfl
theorem arT(d:Int)(e:CE){l:bW}(n:Nat)(h:∀u∈l,u≠o):cL (hG o) n (u7 d (il e::l.map eL))=[]:=by
 unfold u7;cases Int.tmod d 2==1 with
 |true=>
  show cL (hG o) n [eZ [] [] (ez (il e::l.map eL))]=[];rw [nq,wQ,F9,Cd,nq,rA,Qz _ h];rfl
 |false=>
  show cL (hG o) n (il e::l.map eL)=[];rw [nq,rA,Qz _ h];rfl
theorem aah(i:Nat)(n:Nat)(h:∀u∈s.uses,u≠o):cA (hG o) n (gk p i s)=bif p==o then [0]else []:=by
 rw [Zr,F9,Cd,nq,rA];unfold lC;rw [acT,arT _ _ _ h,nq,wQ,rA,JC,mv];rfl
theorem apC(i:Nat)(n:Nat)(h:∀u∈s.uses,u≠o):cA (hG o) n (oa p i s)=bif p==o then [0,0]else []:=by
 unfold oa;cases decide (1<Int.tmod s.deep 4)with
 |true=>
  show cA (hG o) n (ez [cV p (bB s.off),gk p i s])=_;rw [Cd,nq,nq,wQ,rA,aah _ _ h,JC];cases p==o<;>rfl
 |false=>
  show cA (hG o) n (eZ [] [.mk (cV p (bB s.off)) eK] (gk p i s))=_;rw [ayV,rA,rA,aah _ _ h,JC];cases p==o<;>rfl
theorem Qy:∀(l:bW) (n:Nat),cL lG n (l.map eL)=l
 | [],n=>rfl
 |u::l,n=>by
  rw [fW,nq,Qy l];unfold eL;rw [F9,rA];rfl
theorem arI(o:Int)(i:Nat)(s:SC)(n:Nat):cL lG n (lC o i s)=s.uses:=by
 unfold lC;rw [acT,nq,wQ,rA];unfold u7;cases Int.tmod s.deep 2==1 with
 |true=>
  show cL lG n [eZ [] [] (ez (il _::s.uses.map eL))]++_=_;rw [nq,wQ,F9,Cd,nq,rA,Qy];show([]++([]++([]++s.uses))++[])++([]++[])=s.uses;simp
 |false=>
  show cL lG n (il _::s.uses.map eL)++_=_;rw [nq,rA,Qy];show([]++s.uses)++([]++[])=s.uses;simp
theorem P3(o:Int):∀(L:List NB) (v:Nat),v+L.length<=md->L.foldl (om o) (v:Int)=((v+(L.flatMap λx=>hG o x.1).length :Nat):Int)
 | [],v,_=>rfl
 |x::L,v,h=>by
  rw [gE]at h;rw [nX,kZ,fC];cases hb:FP o x.1 with
  |true=>
   have e1:om o (v:Int) x=((v+1:Nat):Int):=by
    unfold om;rw [hb,da];simp only [md]at h;exact BI
   have e2:hG o x.1=[0]:=by unfold hG;rw [hb];rfl
   rw [e1,e2,P3 o L (v+1) (by omega)];simp only [gE,lz];omega
  |false=>
   have e1:om o (v:Int) x=(v:Int):=by unfold om;rw [hb];rfl
   have e2:hG o x.1=[]:=by unfold hG;rw [hb];rfl
   rw [e1,e2,P3 o L v (by omega)];simp only [lz];omega
end
def at4{α:Type}(l:List (List α))(k q:Nat)(v:List α):(l.set k v).getD q []=if k=q∧q<l.length then v else l.getD q []:=by
 rw [Qe,Qe,sV]
 by_cases h:k=q
 ·subst h
  by_cases h2:k<l.length
  ·simp [h2]
  ·simp [h2]
 ·simp [h]
def ZQ(bS:List PR)(prio:Int):∀(F:List NB) (s:US),
 (F.foldl (jA bS prio) s).ok =(s.ok&&(F.flatMap λx=>lG x.1).all λP=>decide (prio<=(uY bS P.toNat).ceil))∧
 (F.foldl (jA bS prio) s).al.length =s.al.length∧
 ∀q,0<((F.foldl (jA bS prio) s).al.getD q []).length ↔ 0<(s.al.getD q []).length ∨q<s.al.length∧∃P∈F.flatMap λx=>lG x.1,P.toNat=q
 | [],s=>⟨by simp,rfl,λq=>by simp⟩
 |x::F,s=>by
  obtain⟨h1,h2,h3⟩:=ZQ bS prio F (jA bS prio s x);rw [nX,kZ];cases hk:x.1.f.kind==20 with
  |true=>
   have eg:jA bS prio s x=⟨s.al.set x.1.f.P.toNat (s.al.getD x.1.f.P.toNat []++[(x.2:Int)]),s.ok&&decide (prio<=(uY bS x.1.f.P.toNat).ceil)⟩:=by unfold jA;rw [hk];rfl
   have el:lG x.1=[x.1.f.P]:=by unfold lG;rw [hk];rfl
   rw [eg]at h1 h2 h3⊢;rw [el];refine⟨by rw [h1,iR,jR,nm,Ei],by rw [h2];exact rR,λq=> ?_⟩;rw [h3];simp only [at4,rR,iR,jR,dA,exists_eq_or_imp]
   by_cases hq:x.1.f.P.toNat=q
   ·by_cases hl:q<s.al.length
    ·simp [hq,hl]
    ·simp [hq,hl]
   ·exact yH
  |false=>
   have eg:jA bS prio s x=s:=by unfold jA;rw [hk];rfl
   have el:lG x.1=[]:=by unfold lG;rw [hk];rfl
   rw [eg]at h1 h2 h3⊢;rw [el];exact⟨h1,h2,h3⟩
def rV(n:Nat)(uses:bW):aH:=(List.range n).flatMap λ(q:Nat)=>bif uses.any (·==(q:Int))then [[iI (q:Int),iI 0]]else []
def ZR(al:List bW):∀(l:cp) (s:UN),(l.foldl (xF al) s).u =s.u++l.flatMap λ(q:Nat)=>bif decide (0<(al.getD q []).length)then [[iI (q:Int),iI 0]]else []
 | [],s=>by simp
 |q::l,s=>by
  rw [nX,ZR al l,kZ];unfold xF;cases decide (0<(al.getD q []).length)<;>simp
def aqZ{f:FN}{uses:bW}(hl:(f.dH.flatMap tK).flatMap (λx=>lG x.1)=uses)(h0:∀u∈uses,0<=u):
 (qa f).ok =uses.all (λP=>decide (f.prio<=(uY f.p.bS P.toNat).ceil))∧(iY f).u =rV f.p.bS.length uses:=by
 have e:qa f=(f.dH.flatMap tK).foldl (jA f.p.bS f.prio) ⟨List.replicate f.p.bS.length [],true⟩:=by
  rw [O3];rfl
 obtain⟨h1,h2,h3⟩:=ZQ f.p.bS f.prio (f.dH.flatMap tK) ⟨List.replicate f.p.bS.length [],true⟩;rw [hl]at h1 h3;refine⟨by rw [e,h1,Qg],?_⟩;unfold iY rV;rw [ZR,jR,e];refine ID λq hq=> ?_;have hq:q<f.p.bS.length:=wx.1 hq;have h3:=h3 q;have:decide (0<((List.foldl (jA f.p.bS f.prio) ⟨List.replicate f.p.bS.length [],true⟩ (f.dH.flatMap tK)).al.getD q []).length)=uses.any (·==(q:Int)):=by
  rw [Qd,decide_eq_true_iff,h3,ZM];have z:(List.replicate f.p.bS.length ([]:bW)).getD q []=[]:=by simp [List.getD,hq]
  rw [z];constructor
  ·rintro(h|⟨_,P,hP,rfl⟩)
   ·exact dB
   ·exact⟨P,hP,by rw [fJ,Int.toNat_of_nonneg (h0 P hP)]⟩
  ·rintro⟨P,hP,h⟩;rw [fJ]at h;exact .inr ⟨by rw [Eg];exact hq,P,hP,by rw [h,wv]⟩
 rw [this]
end Go.Proofs.YtffabbjfdgmbjaaGreat
namespace Go.ae
def acx{p:Prop}(h:p:=by
 unfold oW;rw [OU,da];show(bif decide (0<=per)then some per else none)=some per;rw [jQ h];rfl):p:=h
end Go.ae
namespace Go.Proofs.YtffabbjfdgmbjaaGreat
open Go Go.ae C
section
variable{o:Int}
def ZA(q:Bool)(m:Nat)(s:nQ)(h:s.e.1.f.kind=5):nO q m s=s:=by
 cases m with
 |zero=>rfl
 |succ m=>unfold nO;rw [h];rfl
def aab(s:CS):∃m,aE s=m+1:=⟨aE s- 1,by have:=n7 s;omega⟩
def an5(o:Int)(i:Nat)(s:SC)(first:Nat):∃k,lH true (oa o i s,first)=⟨(gk o i s,k),[(cV o (bB s.off),first+1)],false,false⟩:=by
 unfold oa;cases decide (1<Int.tmod s.deep 4)with
 |true=>
  refine⟨first+1+aE (cV o (bB s.off)),?_⟩;obtain⟨m,hm⟩:=aab (ez [cV o (bB s.off),gk o i s]);show nO true (aE (ez [cV o (bB s.off),gk o i s])) ⟨(ez [cV o (bB s.off),gk o i s],first),[],false,false⟩=_;rw [hm];show nO true m ⟨(gk o i s,first+1+aE (cV o (bB s.off))),[(cV o (bB s.off),first+1)],false,false⟩=_;rw [ZA true m _ rfl]
 |false=>
  refine⟨first+1+aE (cV o (bB s.off))+aE eK,?_⟩;obtain⟨m,hm⟩:=aab (eZ [] [.mk (cV o (bB s.off)) eK] (gk o i s));show nO true (aE (eZ [] [.mk (cV o (bB s.off)) eK] (gk o i s))) ⟨(eZ [] [.mk (cV o (bB s.off)) eK] (gk o i s),first),[],false,false⟩=_;rw [hm];show nO true m ⟨(gk o i s,first+1+aE (cV o (bB s.off))+aE eK),[(cV o (bB s.off),first+1)],false,false⟩=_;rw [ZA true m _ rfl]
def apw(o:Int)(i:Nat)(s:SC)(k:Nat):Cw (gk o i s,k)=(fv true (dS o),k+1+1)::cu (k+1+1+aE (fv true (dS o))) (lC o i s):=by
 rw [Zr];show cu (k+1+1) ((fv true (dS o)::lC o i s)++[])=_;rw [mv];rfl
def Zk(g:CS->Bool):∀(l:List CS) (n:Nat),((cu n l).all λx=>g x.1)=l.all g
 | [],_=>rfl
 |x::l,n=>by rw [show cu n (x::l)=(x,n)::cu (n+aE x) l from rfl,nm,nm,Zk g l]
def ZZ(q:Bool)(f:dW)(h:zd q f=true):fT q (.mk f [] [] [] [])=true:=by rw [EA];show(zd q f&&true)=true;rw [h];rfl
def aaC(q:Bool)(o:Int)(e:CE):fT q (cV o e)=true:=ZZ q _ rfl
def aq8(q:Bool)(e:CE):fT q (il e)=true:=ZZ q _ rfl
def aq6(u:Int):fT false (eL u)=true:=by
 unfold eL;rw [EA];show(true&&([cV u (bB 3)].all (fT false)))=true;rw [nm,aaC];rfl
def ZY(l:bW)(e:CE):(il e::l.map eL).all (fT false)=true:=by
 rw [nm,aq8,iQ.2 λx hx=> ?_]
 ·rfl
 ·obtain⟨u,_,rfl⟩:=nV.1 hx;exact aq6 u
def aq7(o:Int)(i:Nat)(s:SC):(lC o i s).all (fT false)=true:=by
 unfold lC;rw [IM,nm,aaC];unfold u7;cases Int.tmod s.deep 2==1 with
 |false=>rw [dj,ZY];rfl
 |true=>
  rw [da,nm,EA,show(eZ [] [] (ez (il (bB ((i+1:Nat):Int))::s.uses.map eL))).kids =[ez (il (bB ((i+1:Nat):Int))::s.uses.map eL)]from rfl,nm,EA,show(ez (il (bB ((i+1:Nat):Int))::s.uses.map eL)).kids =(il (bB ((i+1:Nat):Int))::s.uses.map eL)++[]from rfl,mv,ZY];rfl
def OU(o:Int):hZ o (dS o)=true:=by
 unfold hZ;show(bif o==o then true else false)=true;rw [wk];rfl
def X4(o:Int)(e:CE):re o (cV o e)=true:=by
 show(o==o)=true;exact wk o
def aqf(o:Int)(e:CE)(d:Int)(l:bW):∀x∈u7 d (il e::l.map eL),xj o x=none:=by
 intro x hx;unfold u7 at hx;cases h:Int.tmod d 2==1<;>rw [h]at hx
 ·rcases dA.1 hx with rfl|hx
  ·rfl
  ·obtain⟨u,_,rfl⟩:=nV.1 hx;rfl
 ·rw [fB.1 hx];rfl
def Z7(o:Int):∀(l:List CS) (n:Nat) (s:sN),(∀x∈l,xj o x=none)->(cu n l).foldl (lM o) s=s
 | [],_,_,_=>rfl
 |x::l,n,s,h=>by
  rw [show cu n (x::l)=(x,n)::cu (n+aE x) l from rfl,nX];have:lM o s (x,n)=s:=by unfold lM;rw [h x (dI ..)]
  rw [this];exact Z7 o l _ s λy hy=>h y (eQ _ hy)
def aqd{per:Int}(d:Int)(h:0<=per):xj o (cV o (oi (mz d o per)))=some per:=by
 unfold xj;rw [X4,da];show zl o (mz d o per)=some per;unfold mz;cases decide (1<Int.tmod d 4)with
 |true=>
  show(bif hZ o (dS o)then oW o (dS o) (bB per)else oW o (bB per) (dS o))=some per;rw [OU,da];exact acx
 |false=>
  show oW o (dS o) (bB per)=some per;exact acx
def aqe(i:Nat){s:SC}(n:Nat)(v:Int)(h:0<=s.per):(cu n (lC o i s)).foldl (lM o) ⟨0,v⟩=⟨1,s.per⟩:=by
 unfold lC;rw [Ec,Qh,Z7 o _ _ _ (aqf o _ _ _)];show lM o ⟨0,v⟩ (cV o (oi (mz s.deep o s.per)),_)=_;unfold lM;rw [aqd s.deep h];rfl
def arx(o off:Int)(n:Nat)(v:Int): [((cV o (bB off),n):NB)].foldl (vD o) ⟨0,v⟩=⟨1,off⟩:=by
 show oz o ⟨0,v⟩ (cV o (bB off))=_;unfold oz FG;rw [X4];rfl
end
end Go.Proofs.YtffabbjfdgmbjaaGreat
namespace Go.ae
def Pu:=@decide_eq_false
def Pt:=@List.any_eq_false
end Go.ae
namespace Go.Proofs.YtffabbjfdgmbjaaGreat
open Go Go.ae C
theorem ars{p:PG}{t first:Nat}{f1 f2 f3:FN}(h1:nB (f0 p t first)=true)(e1:pd (f0 p t first)=f1)(h2:BC f1=true)(e2:rp f1=f2)(h3:BE f2=true)(e3:xl f2=f3)
 (h4:yc f3=true) (h5:decide (ua f3<=f3.period)=true) (h6:(qa (pA f3)).ok =true):one p t first=(0,pA f3):=by
 subst e1;subst e2;subst e3;unfold one;simp only [h1,h2,h3,h4,h5,h6,da]
theorem IZ{α:Type}{l:List α}{i:Nat}(h:i<l.length)(d:α):l.getD i d=l[i]:=by simp [List.getD,h]
theorem acO{f:NB->bW}(h:∀x,(f x).length <=1):∀l:List NB,(l.flatMap f).length <=l.length
 | []=>dZ _
 |x::l=>by
  have:=h x;have:=acO h l;rw [kZ,fC,gE];omega
def oU(n t:Nat)(s:SC):Row:=[iI (t:Int),iI s.prio,iI s.per,iI (bif s.dead==0 then s.per else s.dead),iI s.off,iI 0,.U az (rV n s.uses)]
section
variable {cs:bW} {l:List SC} (b:BL cs l)
include b
theorem asr(i:Nat)(hi:i<l.length):eV (dg cs l).tasks (i+1)=jH cs.length i l[i]:=by
 unfold eV dg;have h:i<(fx cs.length l).length :=by rw [pH];exact hi
 rw [List.getD_cons_succ,IZ h];exact QR _ _ _ hi
theorem ax1{s:SC}(hs:s∈l)(j:Nat):∀u∈s.uses,u≠((cs.length+j:Nat):Int):=λu hu=>by
 have:=(b.us s hs u hu).2.1;omega
theorem Zv(i:Nat):∀(L:List SC) (j:Nat) (v:Nat),(∀s∈L,s∈l)->v+((L.zipIdx j).map λx=>aE (jH cs.length x.2 x.1).body).sum <=md->
 ((L.zipIdx j).map λx=>jH cs.length x.2 x.1).foldl (λv t=>(pre (aE t.body) (t.body,0)).foldl (om ((cs.length+i:Nat):Int)) v) (v:Int)=((v+if j<=i∧i<j+L.length then 2 else 0:Nat):Int)
 | [],j,v,_,_=>by
   have:¬(j<=i∧i<j+0):=by omega
   rw [lz,if_neg this];rfl
 |s::L,j,v,hL,hv=>by
  have hv:v+(aE (jH cs.length j s).body +((L.zipIdx (j+1)).map λx=>aE (jH cs.length x.2 x.1).body).sum)<=md:=by
   rw [Qn,fW,nk]at hv;exact hv
  rw [Qn,fW,nX];show List.foldl _ ((pre (aE (jH cs.length j s).body) ((jH cs.length j s).body,0)).foldl (om ((cs.length+i:Nat):Int)) (v:Int)) _=_;have hlen:(pre (aE (jH cs.length j s).body) ((jH cs.length j s).body,0)).length <=aE (jH cs.length j s).body :=IV (aE (jH cs.length j s).body) ((jH cs.length j s).body,0);have hc:((pre (aE (jH cs.length j s).body) ((jH cs.length j s).body,0)).flatMap λx=>hG ((cs.length+i:Nat):Int) x.1).length =if j=i then 2 else 0:=by
   show(cA (hG ((cs.length+i:Nat):Int)) 0 (oa ((cs.length+j:Nat):Int) j s)).length =_;rw [apC j 0 (ax1 b (hL s (dI ..)) i)]
   by_cases h:j=i
   ·subst h;rw [wk,if_pos rfl];rfl
   ·rw [if_neg h,show(((cs.length+j:Nat):Int)==((cs.length+i:Nat):Int))=false by rw [D5];omega];rfl
  rw [P3 ((cs.length+i:Nat):Int) (pre (aE (jH cs.length j s).body) ((jH cs.length j s).body,0)) v (by omega),hc];have two:(if j=i then 2 else 0)<=(pre (aE (jH cs.length j s).body) ((jH cs.length j s).body,0)).length :=by
   rw [<-hc];exact acO (λx=>by unfold hG;cases FP ((cs.length+i:Nat):Int) x.1<;>decide) _
  rw [Zv i L (j+1) _ (λs hs=>hL s (eQ _ hs)) (by omega),gE]
  by_cases h:j=i
  ·subst h;rw [if_pos rfl,if_neg (by omega),if_pos (by omega)]
  ·rw [if_neg h]
   by_cases h2:j+1<=i∧i<j+1+L.length
   ·rw [if_pos h2,if_pos (by omega)]
   ·rw [if_neg h2,if_neg (by omega)]
theorem aqS(i:Nat)(hi:i<l.length)(f:FN)(hp:f.p=dg cs l)(ho:f.o=((cs.length+i:Nat):Int)):L5 f=2:=by
 unfold L5;rw [hp,ho];have nd:=RS b;have:=Zv b i l 0 0 (λ_ h=>h);show(fx cs.length l).foldl _ ((pre 2 (eZ (jB l.length) [] eK,0)).foldl (om ((cs.length+i:Nat):Int)) 0)=2;show(fx cs.length l).foldl _ ((0:Nat):Int)=2;unfold fx;rw [this]
 ·rw [if_pos (by omega)];rfl
 ·have:((fx cs.length l).map λt=>aE t.body).sum <=300:=by
   have e:((dg cs l).tasks.map λt=>aE t.body).sum =aE (eZ (jB l.length) [] eK)+((fx cs.length l).map λt=>aE t.body).sum :=rfl;omega
  unfold fx at this;rw [Ba]at this;simp only [md];exact j5 (by rw [wA];exact this) (ea)
theorem aqh(i:Nat)(hi:i<l.length)(first:Nat):∃f,one (dg cs l) (i+1) first=(0,f)∧nI f=oU cs.length (i+1) l[i]:=by
 have hm:=eH hi;have rg:=b.rg _ hm;have us:=b.us _ hm;have ht:=asr b i hi;generalize l[i]=s at hm rg us ht;obtain⟨k,hk⟩:=an5 ((cs.length+i:Nat):Int) i s first
 have hS:gD (f0 (dg cs l) (i+1) first)=⟨(gk ((cs.length+i:Nat):Int) i s,k),[(cV ((cs.length+i:Nat):Int) (bB s.off),first+1)],false,false⟩:=by
  show lH true ((eV (dg cs l).tasks (i+1)).body,first)=_;rw [ht];exact hk
 have hL:oB (f0 (dg cs l) (i+1) first)=(fv true (dS ((cs.length+i:Nat):Int)),k+1+1)::cu (k+1+1+aE (fv true (dS ((cs.length+i:Nat):Int)))) (lC ((cs.length+i:Nat):Int) i s):=by
  unfold oB;rw [hS];exact apw _ i s k
 have hE:vE (f0 (dg cs l) (i+1) first)=dS ((cs.length+i:Nat):Int):=by unfold vE;rw [hL];rfl
 have cX:(iw (dg cs l).bZ ((cs.length+i:Nat):Int)).size =1:=by
  have aY:((cs.length+i:Nat):Int).toNat <(dg cs l).bZ.length :=by rw [wH,wv];omega
  unfold iw;rw [IZ aY];have:=eH aY;rcases jS.1 (show(dg cs l).bZ[((cs.length+i:Nat):Int).toNat]∈cs.map (λ_=>lO)++List.replicate l.length oA from this)with h|h
  ·obtain⟨_,_,h⟩:=nV.1 h;rw [<-h]
  ·rw [Eh h]
 have h1:nB (f0 (dg cs l) (i+1) first)=true:=by
  unfold nB;rw [hS,hL,hE];show(vF (eV (dg cs l).tasks (i+1)) _&&(xO _&&(hZ ((cs.length+i:Nat):Int) (dS ((cs.length+i:Nat):Int))&&((iw (dg cs l).bZ ((cs.length+i:Nat):Int)).size ==1))))=true;rw [ht,OU,cX];have p1:decide (s.prio<1)=false:=Pu (by have:=rg.p1;omega);have a1:vF (jH cs.length i s) ⟨(gk ((cs.length+i:Nat):Int) i s,k),[(cV ((cs.length+i:Nat):Int) (bB s.off),first+1)],false,false⟩=true:=by
   show(bif decide (s.prio<1)then false else(true&&true))=true;rw [p1];rfl
  have a2:xO ((fv true (dS ((cs.length+i:Nat):Int)),k+1+1)::cu (k+1+1+aE (fv true (dS ((cs.length+i:Nat):Int)))) (lC ((cs.length+i:Nat):Int) i s))=true:=by
   show((cu (k+1+1+aE (fv true (dS ((cs.length+i:Nat):Int)))) (lC ((cs.length+i:Nat):Int) i s)).all λx=>fT false x.1)=true;rw [Zk,aq7]
  rw [a1,a2];rfl
 generalize mF:k+1+1+aE (fv true (dS ((cs.length+i:Nat):Int)))=kk at hL;have e1:pd (f0 (dg cs l) (i+1) first)=⟨dg cs l,i+1,first,(gk ((cs.length+i:Nat):Int) i s,k),[(cV ((cs.length+i:Nat):Int) (bB s.off),first+1)],false,false,(fv true (dS ((cs.length+i:Nat):Int)),k+1+1),cu kk (lC ((cs.length+i:Nat):Int) i s),((cs.length+i:Nat):Int),0,0,0,0,0,0⟩:=by
  unfold pd;rw [hS,hL,hE];rfl
 have r:=rg;have afJ:FE ⟨dg cs l,i+1,first,(gk ((cs.length+i:Nat):Int) i s,k),[(cV ((cs.length+i:Nat):Int) (bB s.off),first+1)],false,false,(fv true (dS ((cs.length+i:Nat):Int)),k+1+1),cu kk (lC ((cs.length+i:Nat):Int) i s),((cs.length+i:Nat):Int),0,0,0,0,0,0⟩=⟨1,s.per⟩:=
  aqe i kk 0 (by have:=r.e1;omega)
 have oX:FF ⟨dg cs l,i+1,first,(gk ((cs.length+i:Nat):Int) i s,k),[(cV ((cs.length+i:Nat):Int) (bB s.off),first+1)],false,false,(fv true (dS ((cs.length+i:Nat):Int)),k+1+1),cu kk (lC ((cs.length+i:Nat):Int) i s),((cs.length+i:Nat):Int),0,0,s.per,0,0,0⟩=⟨1,s.off⟩:=
  arx _ s.off _ 0
 have hdl:ua ⟨dg cs l,i+1,first,(gk ((cs.length+i:Nat):Int) i s,k),[(cV ((cs.length+i:Nat):Int) (bB s.off),first+1)],false,false,(fv true (dS ((cs.length+i:Nat):Int)),k+1+1),cu kk (lC ((cs.length+i:Nat):Int) i s),((cs.length+i:Nat):Int),0,0,s.per,0,s.off,0⟩=bif s.dead==0 then s.per else s.dead:=by
  show(bif (eV (dg cs l).tasks (i+1)).dead ==0 then s.per else(eV (dg cs l).tasks (i+1)).dead)=_;rw [ht];rfl
 have vR:pA ⟨dg cs l,i+1,first,(gk ((cs.length+i:Nat):Int) i s,k),[(cV ((cs.length+i:Nat):Int) (bB s.off),first+1)],false,false,(fv true (dS ((cs.length+i:Nat):Int)),k+1+1),cu kk (lC ((cs.length+i:Nat):Int) i s),((cs.length+i:Nat):Int),0,0,s.per,0,s.off,0⟩=
  ⟨dg cs l,i+1,first,(gk ((cs.length+i:Nat):Int) i s,k),[(cV ((cs.length+i:Nat):Int) (bB s.off),first+1)],false,false,(fv true (dS ((cs.length+i:Nat):Int)),k+1+1),cu kk (lC ((cs.length+i:Nat):Int) i s),((cs.length+i:Nat):Int),((i+1:Nat):Int),s.prio,s.per,(bif s.dead==0 then s.per else s.dead),s.off,0⟩:=by
  unfold pA;rw [hdl];show FN.mk _ _ _ _ _ _ _ _ _ _ _ (eV (dg cs l).tasks (i+1)).prio _ _ _ _=_;rw [ht];rfl
 have Gw:=aqZ (f:=⟨dg cs l,i+1,first,(gk ((cs.length+i:Nat):Int) i s,k),[(cV ((cs.length+i:Nat):Int) (bB s.off),first+1)],false,false,(fv true (dS ((cs.length+i:Nat):Int)),k+1+1),cu kk (lC ((cs.length+i:Nat):Int) i s),((cs.length+i:Nat):Int),((i+1:Nat):Int),s.prio,s.per,(bif s.dead==0 then s.per else s.dead),s.off,0⟩)
  (uses:=s.uses) (arI ((cs.length+i:Nat):Int) i s kk) λu hu=>(us u hu).1
 have aQ:=ars (p:=dg cs l) (t:=i+1) (first:=first) h1 e1 (by unfold BC;rw [afJ];show(true&&(decide (1<=s.per)&&decide (s.per<=2147483647)))=true;rw [jQ r.e1,jQ r.e2];rfl)
  (by unfold rp;rw [afJ]) (by unfold BE;rw [oX];show(true&&(decide (0<=s.off)&&decide (s.off<=2147483647)))=true;rw [jQ r.o1,jQ r.o2];rfl)
  (by unfold xl;rw [oX]) (by
    unfold yc;rw [aqS b i hi _ rfl rfl];show(!((dg cs l).bZ.any λo=>gQ o.set ((cs.length+i:Nat):Int)))=true;rw [nU,Pt];intro o ho;rw [((RR b).o3 o ho).set];simp [gQ])
  (by rw [hdl];show decide ((bif s.dead==0 then s.per else s.dead)<=s.per)=true;refine jQ ?_;have:=r.d2;cases s.dead==0<;>simp<;>omega)
  (by
    rw [vR,Gw.1,iQ];intro u hu;obtain⟨g1,g2,g3⟩:=us u hu;refine jQ ?_;show s.prio<=(uY (jl cs) u.toNat).ceil;have aY:u.toNat<cs.length:=by omega
    have:uY (jl cs) u.toNat=⟨cs[u.toNat],[(u.toNat:Int)],[]⟩:=by
     unfold uY;rw [IZ (show u.toNat<(jl cs).length by rw [oN];exact aY)];exact Q0 cs _ aY
    rw [this];rw [IZ aY]at g3;exact g3)
 refine⟨_,aQ,?_⟩;rw [vR];unfold nI oU;rw [Gw.2];show [_,_,_,_,_,_,AV.U az (rV (jl cs).length s.uses)]=_;rw [oN]
end
end Go.Proofs.YtffabbjfdgmbjaaGreat
namespace Go.ae
def Px:=@List.drop_of_length_le
end Go.ae
namespace Go.Proofs.YtffabbjfdgmbjaaGreat
open Go Go.ae C
def mL(n:Nat)(l:List SC):aH:=l.zipIdx.map λx=>oU n (x.2+1) x.1
theorem DY(n:Nat)(l:List SC):(mL n l).length =l.length:=by simp [mL]
theorem Zg(n:Nat)(l:List SC)(i:Nat)(h:i<l.length):(mL n l)[i]'(by rw [DY];exact h)=oU n (i+1) l[i]:=by simp [mL]
section
variable {cs:bW} {l:List SC} (b:BL cs l)
include b
theorem apD:∀first out,∃fs,mf (dg cs l) (fx cs.length l) 1 first out=(0,out++fs)∧fs.map nI=mL cs.length l:=by
 refine gy (m:=l.length) (P:=λj=>∀first out,∃fs,mf (dg cs l) ((fx cs.length l).drop j) (j+1) first out=(0,out++fs)∧fs.map nI=(mL cs.length l).drop j) (λfirst out=>⟨[],?_,?_⟩) λj hj ih first out=> ?_
 ·rw [Px (by rw [pH];exact dZ _),mv];rfl
 ·rw [Px (by rw [DY];exact dZ _)];rfl
 ·have vN:j<(fx cs.length l).length :=by rw [pH];exact hj
  have LM:j<(mL cs.length l).length :=by rw [DY];exact hj
  obtain⟨f,h1,h2⟩:=aqh b j hj first
  obtain⟨fs,h3,h4⟩:=ih (first+aE (fx cs.length l)[j].body) (out++[f]);refine⟨f::fs,?_,?_⟩
  ·rw [kG vN];show(bif (one (dg cs l) (j+1) first).1 ==0 then mf (dg cs l) ((fx cs.length l).drop (j+1)) (j+1+1) (first+aE (fx cs.length l)[j].body) (out++[(one (dg cs l) (j+1) first).2])else((one (dg cs l) (j+1) first).1,[]))=_;rw [h1];show mf (dg cs l) ((fx cs.length l).drop (j+1)) (j+1+1) (first+aE (fx cs.length l)[j].body) (out++[f])=_;rw [h3,mu];rfl
  ·rw [kG LM,Zg _ _ _ hj,fW,h2,h4]
theorem aqB:∃fs,kv (dg cs l)=(0,fs)∧fs.map nI=mL cs.length l:=by
 obtain⟨fs,h1,h2⟩:=apD b (0+aE (eZ (jB l.length) [] eK)) [];refine⟨fs,?_,h2⟩;have e:lH false ((eV (dg cs l).tasks 0).body,0)=⟨(eK,1),[],decide (0<(jB l.length).length),false⟩:=rfl;unfold kv;rw [e];show(bif (dg cs l).tasks.length ==1 then(370,[])else mf (dg cs l) (fx cs.length l) 1 (0+aE (eZ (jB l.length) [] eK)) [])=_;have hl:=b.l1;have:((dg cs l).tasks.length ==1)=false:=by
  show((fx cs.length l).length +1==1)=false;rw [pH,D5];omega
 rw [this,dj,h1];rfl
theorem aoO:Ev vX [.agg (fG (dg cs l))] (0,[iI 0,.U dY (mL cs.length l)]):=by
 obtain⟨fs,h1,h2⟩:=aqB b;have:=aoR b;rw [h1]at this;rw [<-h2];exact this
end
def dh:List CS:=[fv true (dS 1),yY 0 (cV 0 (bB 3)),cV 1 (oi (sl (dS 1) (bB 20)))]
def ex(prio dead:Int)(l:List CS):PG:=⟨[lO,oA],4,[⟨0,[],eZ [1] [] eK,0⟩,⟨prio,[],eZ [] [.mk (cV 1 (bB 10)) eK] (jw (bB 1) (ez l)),dead⟩],[⟨5,[0],[]⟩]⟩
def P8:(kv (ex 4 0 dh)).1 =0∧(kv (ex 4 0 dh)).2.map nI=[[iI 1,iI 4,iI 20,iI 20,iI 10,iI 0,.U az [[iI 0,iI 0]]]]:=⟨l8,l8⟩
def YG:(kv (ex 4 0 dh)).2.flatMap rG=[[iI 1,iI (-1),.U ak [[iI 7]]],[iI 1,iI 0,.U ak [[iI 8]]]]:=l8
def ex2:kv (ex 4 21 dh)=(370,[]):=l8
def ex3:kv (ex 6 0 dh)=(371,[]):=l8
def ex4:kv (ex 0 0 dh)=(370,[]):=l8
def ex5:kv (ex 4 0 (cV 1 (bB 11)::dh))=(370,[]):=l8
def ex6:kv (ex 4 0 (dh++[fv false (bB 1)]))=(370,[]):=l8
section
variable {prio dead:Int} {l:List CS}
def Fm:TO (ex prio dead l) (gY (ex prio dead l)) 1:=⟨rfl,rfl,rfl,λ_=>rfl⟩
def atx:CO (ex prio dead l) (gY (ex prio dead l)) 0:=⟨rfl,rfl,rfl,λ_=>rfl,ea,by show(0:Int)<1;decide⟩
def atw(h1:0<=prio∧prio<=31)(h2:0<=dead∧dead<=2147483647):SP (ex prio dead l):=by
 refine⟨by show 1<=2;decide,by show 2<=2048;decide,λo ho=> ?_,⟨by show(4:Int)<=4;decide,by show(4:Int)<=64;decide⟩,by show 1<=2;decide,by show 2<=32;decide,λt ht=> ?_,by show 1<=32;decide,by show 1<=2;decide,λi h=> ?_⟩
 ·rcases dA.1 ho with rfl|ho
  ·exact o1C
  ·rw [fB.1 ho];exact o1T
 ·rcases dA.1 ht with rfl|ht
  ·exact acz
  ·rw [fB.1 ht];exact⟨rfl,h1.1,h1.2,h2.1,h2.2⟩
 ·have:i=0:=by have:i<1:=h;omega
  subst this;exact⟨rfl,rfl,by show(0:Int)<=5;decide,by show(5:Int)<=31;decide⟩
end
section
variable {prio dead:Int} {l:List CS}
def C0(prio dead:Int)(l:List CS):Prop:=∀s∈l,∀{w:WH} {d:Int},Wd w d->d<40->AC (ex prio dead l) (gY (ex prio dead l)) (mI 1) w s
def atv(hl:l.length<=4)(hn:cc l<=20)(h:C0 prio dead l):SQ (ex prio dead l) (eZ [1] [] eK) [⟨prio,[],eZ [] [.mk (cV 1 (bB 10)) eK] (jw (bB 1) (ez l)),dead⟩]:=by
 have hc:=rj 1;have hw:=(Bw 0).dp;refine⟨⟨_,rfl,rfl⟩,?_,?_,λi hi=> ?_⟩
 ·show 2+((1+((1+1+0)+((1+(0+((1+(0+(cc l+(0+0)))+0)+(0+0)))+0)+(0+0))))+0)<=8192;omega
 ·exact Qc (rj 0) hc ((Bw 0).hd (ea)) (JJ rfl rfl rfl) (dX _) (og) (aaz (n:=1) (ea)) rfl qt (I5 hc ⟨hw.d0,aa7⟩)
 ·have:i=0:=by have:i<1:=hi;omega
  subst this;have h0:=Bw 1;have h1:=h0.dp;have UY:Wd (rM (iE (w0 1))) (0+1):=⟨⟨rfl,h0.mk'.2.1,h0.mk'.2.2⟩,h0.act,h0.xM,h0.un,h1.d0,h1.d1⟩;have lv:Wd (Cp (iE (w0 1))) (0+1):=⟨h0.mk',h0.act,h0.xM,h0.un,h1.d0,h1.d1⟩;refine Qo hc (h0.hd (ea)) (by show(1:Nat)<=256;decide) (λx hx=> ?_) (ZN hc (lv.hd (ea)) lv.ok (uE (n:=1) (ea)) rfl (JH hc (lv.dp.hd (ea)) (mM) λs hs=>h s hs lv.dp.dp (ea)));rw [fB.1 hx];exact⟨Bg hc UY (ea) Fm (uE (ea)) rfl,I5 hc ⟨h1.d0,by show(iE (w0 1)).deep <64;have:=h1.d1;omega⟩⟩
end
section
variable {prio dead:Int} {l:List CS}
abbrev PA1(prio dead:Int)(l:List CS)(s:CS):Prop:=∀{w:WH} {d:Int},Wd w d->d<40->AC (ex prio dead l) (gY (ex prio dead l)) (mI 1) w s
def Sz:∀s∈dh,PA1 prio dead l s:=λs hs w d hw hd=>by
 have hc:=rj 1;rcases dA.1 hs with rfl|hs
 ·exact Qp hc (hw.hd (by omega)) hw.ok hw.act hw.un (ZO Fm) rfl
 rcases dA.1 hs with rfl|hs
 ·exact acV hc hw (by omega) (u:=0) atx
 rw [fB.1 hs];exact Bg hc hw (by omega) Fm (aas (d:=0) (per:=20) Fm (ea)) rfl
def Er:C0 prio dead dh:=λs hs w d hw hd=>Sz s hs hw hd
def aqG:C0 prio dead (cV 1 (bB 11)::dh):=λs hs w d hw hd=>by
 rcases dA.1 hs with rfl|hs
 ·exact Bg (rj 1) hw (by omega) Fm (uE (ea)) rfl
 ·exact Sz s hs hw hd
def aqF:C0 prio dead (dh++[fv false (bB 1)]):=λs hs w d hw hd=>by
 rcases jS.1 hs with hs|hs
 ·exact Sz s hs hw hd
 ·rw [fB.1 hs];exact Qp (rj 1) (hw.hd (by omega)) hw.ok hw.act hw.un (uE (ea)) rfl
end
section
variable {prio dead:Int} {l:List CS}
structure XL(l:List CS):Prop where
 len:l.length<=4
 nd:cc l<=20
 ok:∀x∈l,x.Ok
 sh:∀x∈l,x.Sh 2 1
def QB(h:XL l):tL (ex prio dead l):=by
 have hl:=h.len;have hn:=h.nd;refine⟨⟨Bq,λo ho=> ?_,Bq,λt ht=> ?_,og,λq hq=> ?_⟩,?_,λt ht=> ?_⟩
 ·rcases dA.1 ho with rfl|ho
  ·exact dX _
  ·rw [fB.1 ho];exact dX _
 ·rcases dA.1 ht with rfl|ht
  ·exact⟨dX _,λe he=>Bl,Ed (og) (dX _) IW qt⟩
  ·rw [fB.1 ht];exact⟨dX _,λe he=>Bl,Ed (dX _) (og) (Zm (oP 1) (I8 (mM) h.ok)) λx hx=>by rw [fB.1 hx];exact⟨yF (oP _),IW⟩⟩
 ·rw [fB.1 hq];exact⟨og,w8⟩
 ·show 2+((1+((1+1+0)+((1+(0+((1+(0+(cc l+(0+0)))+0)+(0+0)))+0)+(0+0))))+0)<=md;simp only [md];omega
 ·rcases dA.1 ht with rfl|ht
  ·exact DX Iv qt
  ·rw [fB.1 ht];exact DX (Yp _ (IT h.sh)) λx hx=>by rw [fB.1 hx];exact⟨Ek _,Iv⟩
end
def okB:∀x∈dh,x.Ok:=λx hx=>by
 rcases dA.1 hx with rfl|hx
 ·exact PX (wE 1)
 rcases dA.1 hx with rfl|hx
 ·exact aaL 0
 rw [fB.1 hx];exact yF (I9 (EC (wE 1) (oP 20)))
def SZ:∀x∈dh,x.Sh 2 1:=λx hx=>by
 rcases dA.1 hx with rfl|hx
 ·exact Yq (ea)
 rcases dA.1 hx with rfl|hx
 ·exact Z2 (ea)
 rw [fB.1 hx];exact Z3 1 0 20
def zD:XL dh:=⟨ea,by show cc dh<=20;exact oL rfl,okB,SZ⟩
def xl2:XL (cV 1 (bB 11)::dh):=⟨ea,oL rfl,λx hx=>by
 rcases dA.1 hx with rfl|hx
 ·exact yF (oP 11)
 ·exact okB x hx,λx hx=>by
 rcases dA.1 hx with rfl|hx
 ·exact Ek 11
 ·exact SZ x hx⟩
def Ry{prio dead:Int}{l:List CS}(h:XL l)(ha:C0 prio dead l)(h1:0<=prio∧prio<=31)(h2:0<=dead∧dead<=2147483647):Ev um [.agg (fG (ex prio dead l))] (0,[.bool true]):=afy (atw h1 h2) (atv h.len h.nd ha)
def anW{no np:Nat}{u:Bool}{n:Int}:CS.Sh no np (fv u (bB n)):=vA ⟨λh=>(by cases h),λh=>(by cases h),λh=>(by cases h),λ_=>⟨rfl,λe he hk=>by rw [fB.1 he]at hk;cases hk⟩,λh=>(by cases h)⟩ (λx h=>dB) λx h=>dB
def xl3:XL (dh++[fv false (bB 1)]):=⟨ea,oL rfl,λx hx=>by
 rcases jS.1 hx with hx|hx
 ·exact okB x hx
 ·rw [fB.1 hx];exact PX (oP 1),λx hx=>by
 rcases jS.1 hx with hx|hx
 ·exact SZ x hx
 ·rw [fB.1 hx];exact anW⟩
def Ep{prio dead:Int}{l:List CS}(h:XL l)(ha:C0 prio dead l)(h1:0<=prio∧prio<=31)(h2:0<=dead∧dead<=2147483647){e:Int}(he:kv (ex prio dead l)=(e,[])):Ev qk [.agg (fG (ex prio dead l)),iI e] (0,[.bool true]):=
 ar4 (QB h) (by show 0<2;decide) (Ry h ha h1 h2) e he
def atu:Ev qk [.agg (fG (ex 4 21 dh)),iI 370] (0,[.bool true]):=Ep zD Er (ea) (ea) ex2
def att:Ev qk [.agg (fG (ex 6 0 dh)),iI 371] (0,[.bool true]):=Ep zD Er (ea) (ea) ex3
def ats:Ev qk [.agg (fG (ex 0 0 dh)),iI 370] (0,[.bool true]):=Ep zD Er (ea) (ea) ex4
def atr:Ev qk [.agg (fG (ex 4 0 (cV 1 (bB 11)::dh))),iI 370] (0,[.bool true]):=Ep xl2 aqG (ea) (ea) ex5
def atq:Ev qk [.agg (fG (ex 4 0 (dh++[fv false (bB 1)]))),iI 370] (0,[.bool true]):=Ep xl3 aqF (ea) (ea) ex6
def an3(s:CS):aX (yY 0 s)=[.int .u8 20,iI 0,iI 0,iI 0,iI 0,iI 0,.bool false,.bool false,.bool false,.bool false,.bool false,.int .u8 0,.U ax ([]),.U ax ([]),.U aL ([]),.U aL ([]),.U ak [],.U aZ [aX s],.U bD ([]),.U bK ([]),.U bP ([])]:=pQ
def aqT(a b:CE):bq (sl a b)=[.int .u8 5,.int .u8 1,iI 0,iI 0,iI 0,iI 0,iI 0,iI 0,.U ax [bq a,bq b]]:=Jh
abbrev CZ:List TK:=(ex 4 0 dh).tasks
def zm:Ev uy [] (0,[.agg [.aa 0,iI 4,.aa 1,.aa 2],.U bE ((ex 4 0 dh).bZ.map fM),.U cT (CZ.map bL),.U dN ((ex 4 0 dh).bS.map ie)]):=by
 refine bu aoH (ao (E5 1) (ao (qy 3) ?_));erw [dx];refine ao (xg 0 (bB 3)) (ao (E5 1) (ao (qy 20) ?_));refine ao (o:=(0,[.agg By,.U ax [bq (oi (sl (dS 1) (bB 20)))],.U aL [eM (ox 1)]])) ?_ ?_
 ·erw [dx,dx];rw [<-aqT,<-Z6];exact xg _ _
 refine ao (o:=(0,[.agg (aX (ez dh))])) ?_ ?_
 ·erw [dx,wD,wD];rw [<-YM,<-an3];exact BY dh
 refine ao (qy 1) (ao BF (ao BF ?_));erw [iT];refine ao (Qv [1] eK) (ao (qy 10) ?_);erw [dx];refine ao (xg 1 (bB 10)) ?_;refine ao (o:=(0,[.agg (BZ [] [ed (.mk (cV 1 (bB 10)) eK)]),.U aZ [aX (jw (bB 1) (ez dh))]])) ?_ (ah ?_)
 ·erw [wD,dx,iT];rw [<-Pb];exact Z5 _ _ _
 have e1:CZ.map bL=[bL ⟨0,[],eZ [1] [] eK,0⟩,bL ⟨4,[],eZ [] [.mk (cV 1 (bB 10)) eK] (jw (bB 1) (ez dh)),0⟩]:=rfl;rw [e1,uC,Y8,uI (pK [1])];rfl
end Go.Proofs.YtffabbjfdgmbjaaGreat
namespace Go.ae
def Rq{p:Prop}(h:p:=by rw [fI];exact jQ (by omega)):p:=h
end Go.ae
namespace Go.Proofs.YtffabbjfdgmbjaaGreat
open Go Go.ae C
abbrev LY(l:List CS):aD:=[.agg [.aa 0,iI 4,.aa 1,.aa 2],.U bE ((ex 4 0 l).bZ.map fM),.U cT ((ex 4 0 l).tasks.map bL),.U dN ((ex 4 0 l).bS.map ie)]
def aee(l:List CS):gR (gA ((ex 4 0 l).tasks.map bL) 1) 19=[aX (jw (bB 1) (ez l))]:=by
 show gR (bL ⟨4,[],eZ [] [.mk (cV 1 (bB 10)) eK] (jw (bB 1) (ez l)),0⟩) 19=_;rw [uC];rfl
def ac2(e:CE)(s:CS):gR (aX (jw e s)) 17=[aX s]:=pQ
def aaD(l:List CS):gR (aX (ez l)) 17=l.map aX:=pQ
def aau(e:CE)(s t:CS):sT (aX (jw e s)) [(17,.U aZ [aX t])]=aX (jw e t):=by rw [uI,uI];rfl
def acP(l m:List CS):((ex 4 0 l).tasks.map bL).set 1 (setAt (gA ((ex 4 0 l).tasks.map bL) 1) 19 [.U aZ [aX (jw (bB 1) (ez m))]])=(ex 4 0 m).tasks.map bL:=by
 show [bL ⟨0,[],eZ [1] [] eK,0⟩,setAt (bL ⟨4,[],eZ [] [.mk (cV 1 (bB 10)) eK] (jw (bB 1) (ez l)),0⟩) 19 [.U aZ [aX (jw (bB 1) (ez m))]]]=[bL ⟨0,[],eZ [1] [] eK,0⟩,bL ⟨4,[],eZ [] [.mk (cV 1 (bB 10)) eK] (jw (bB 1) (ez m)),0⟩];rw [uC,uC];rfl
def w1R(l:List CS)(hl:l.length<=4):Ev Ot [.U aZ (l.map aX)] (0,[.U aZ ((cV 1 (bB 11)::l).map aX)]):=by
 refine bu amS (ao (qy 11) ?_);erw [dx];refine ao (xg 1 (bB 11)) (aV (Rq) (ah ?_));erw [wD];rfl
def w2R(l:List CS)(hl:l.length<=4):Ev NX [.U aZ (l.map aX)] (0,[.U aZ ((l++[fv false (bB 1)]).map aX)]):=by
 refine bu alw (ao (qy 1) (aV (Rq) (ah ?_)));erw [dx];rw [lX,List.map_singleton,uI (LX false (bB 1))];rfl
def b1R:Ev MD (LY dh) (0,LY (cV 1 (bB 11)::dh)):=by
 refine bu ahH ?_;rw [aee dh,show gA [aX (jw (bB 1) (ez dh))] 0=aX (jw (bB 1) (ez dh))from rfl,ac2,show gA [aX (ez dh)] 0=aX (ez dh)from rfl,aaD,jR,iT];refine aV rfl (aV rfl (aV rfl (aV rfl (aV rfl (ao (w1R dh (ea)) (ao (BY _) (aV rfl (aV rfl (ah ?_)))))))));erw [iT,aau,acP dh];rfl
def b2R:Ev MS (LY dh) (0,LY (dh++[fv false (bB 1)])):=by
 refine bu aiz ?_;rw [aee dh,show gA [aX (jw (bB 1) (ez dh))] 0=aX (jw (bB 1) (ez dh))from rfl,ac2,show gA [aX (ez dh)] 0=aX (ez dh)from rfl,aaD,jR,iT];refine aV rfl (aV rfl (aV rfl (aV rfl (aV rfl (ao (w2R dh (ea)) (ao (BY _) (aV rfl (aV rfl (ah ?_)))))))));erw [iT,aau,acP dh];rfl
abbrev oT:Row:=[iI 1,iI 4,iI 20,iI 20,iI 10,iI 0,.U az [[iI 0,iI 0]]]
abbrev su:aH:=[[iI 1,iI (-1),.U ak [[iI 7]]],[iI 1,iI 0,.U ak [[iI 8]]]]
def asz:Ev N6 [.U dY [oT],.U dY [oT]] (0,[.bool true]):=by
 have i1:E (λN m=>Hs (FU CX EE N) N m [iI 0,.agg oT,.agg oT]) (1,[.agg oT,.agg oT]):=by
  refine bx Wp (bj rfl (aV rfl (aV rfl (aC rfl ?_))));exact bx Wp (aC rfl (ah rfl))
 have i0:E (λN _=>Nn (FU CX EE N) N [.agg oT,.agg oT]) (0,[.agg oT,.agg oT]):=
  cP ajK (aC rfl (aC rfl (aC rfl (aC rfl (aC rfl (aC rfl (aC rfl (ah rfl))))))))
 have k:E (λN m=>HE (FU CX EE N) N m [.U dY [oT],.U dY [oT],iI 0]) (1,[]):=by
  refine bx WL (bj rfl (aV rfl (aV rfl (ao i0 (bj rfl (ao i1.diag (aC rfl ?_)))))));exact bx WL (aC rfl (ah rfl))
 exact bu alZ (aC rfl (ao k.diag (aC rfl (ah rfl))))
def asA:Ev N7 [.U dM su,.U dM su] (0,[.bool true]):=by
 have j (i:Int) (hi:i=0∨i=1):E (λN _=>No (FU CX EE N) N [.U dM su,.U dM su,iI i]) (0,[]):=by
  rcases hi with rfl|rfl<;>exact cP ajL (aV rfl (aV rfl (aC rfl (aV rfl (aV rfl (aC rfl (aV rfl (aV rfl (aC rfl (ah rfl))))))))))
 have k (i:Int) (hi:i=0∨i=1):E (λN m=>Hw (FU CX EE N) N m [.U dM su,.U dM su,iI i,iI 0]) (1,[]):=by
  rcases hi with rfl|rfl<;>
  ·refine bx WC (aV rfl (bj rfl (aV rfl (aV rfl (aV rfl (aV rfl (aC rfl ?_)))))));exact bx WC (aV rfl (aC rfl (ah rfl)))
 have l:E (λN m=>HF (FU CX EE N) N m [.U dM su,.U dM su,iI 0]) (1,[]):=by
  refine bx Nz (bj rfl (ao (j 0 (.inl rfl)) (bj rfl (ao (k 0 (.inl rfl)).diag (aC rfl ?_)))));refine bx Nz (bj rfl (ao (j 1 (.inr rfl)) (bj rfl (ao (k 1 (.inr rfl)).diag (aC rfl ?_)))));exact bx Nz (aC rfl (ah rfl))
 exact bu al0 (aC rfl (ao l.diag (aC rfl (ah rfl))))
def ayU:Ev vX [.agg (fG (ex 4 0 dh))] (0,[iI 0,.U dY [oT]]):=by
 have h:=RN (QB zD) (by show 0<2;decide) (Ry (prio:=4) (dead:=0) zD Er (ea) (ea));rw [P8.1,P8.2]at h;exact h
def axK:Ev DE [.agg (fG (ex 4 0 dh))] (0,[iI 0,.U dM su]):=by
 have h:=aaK (QB zD) (by show 0<2;decide) (Ry (prio:=4) (dead:=0) zD Er (ea) (ea)) (by rw [YG];decide);rw [P8.1,YG]at h;exact h
def wJ:E (λN _=>Oc (FU CX EE N) N [iI 0,iI 0,.U dY [oT],.U dM su]) (0,[.bool true,.U dY [oT],.U dM su]):=
 cP alU (bj rfl (bj rfl (ao asz (bj rfl (ao asA (ah rfl))))))
def ard(x:Int):(CZ.map bL).set 1 (setAt (gA (CZ.map bL) 1) 23 [iI x])=(ex 4 x dh).tasks.map bL:=by
 show [bL ⟨0,[],eZ [1] [] eK,0⟩,setAt (bL ⟨4,[],eZ [] [.mk (cV 1 (bB 10)) eK] (jw (bB 1) (ez dh)),0⟩) 23 [iI x]]=[bL ⟨0,[],eZ [1] [] eK,0⟩,bL ⟨4,[],eZ [] [.mk (cV 1 (bB 10)) eK] (jw (bB 1) (ez dh)),x⟩];rw [uC,uC];rfl
def ac9(x:Int):(CZ.map bL).set 1 (setAt (gA (CZ.map bL) 1) 0 [iI x])=(ex x 0 dh).tasks.map bL:=by
 show [bL ⟨0,[],eZ [1] [] eK,0⟩,setAt (bL ⟨4,[],eZ [] [.mk (cV 1 (bB 10)) eK] (jw (bB 1) (ez dh)),0⟩) 0 [iI x]]=[bL ⟨0,[],eZ [1] [] eK,0⟩,bL ⟨x,[],eZ [] [.mk (cV 1 (bB 10)) eK] (jw (bB 1) (ez dh)),0⟩];rw [uC,uC];rfl
def Bh:Ev v8 [] (0,[.bool true]):=by
 refine bu anK (ao zm (ao ayU (ao zm (ao axK (ao zm (ao zm (ao zm (aV rfl (aV rfl (aV rfl (aV rfl (aV rfl (aV rfl (ao zm (ao b1R (ao zm (ao b2R (ao wJ (bj rfl ?_)))))))))))))))))));refine ao (o:=(0,[.bool true])) ?_ (bj rfl (ao (o:=(0,[.bool true])) ?_ (bj rfl (ao (o:=(0,[.bool true])) ?_ (bj rfl (ao atr (bj rfl (ao atq (ah rfl)))))))))
 ·have:=atu;rw [show fG (ex 4 21 dh)=[.U bE ((ex 4 21 dh).bZ.map fM),iI 4,.U cT ((ex 4 21 dh).tasks.map bL),.U dN ((ex 4 21 dh).bS.map ie)]from rfl,<-ard]at this;exact this
 ·have:=att;rw [show fG (ex 6 0 dh)=[.U bE ((ex 6 0 dh).bZ.map fM),iI 4,.U cT ((ex 6 0 dh).tasks.map bL),.U dN ((ex 6 0 dh).bS.map ie)]from rfl,<-ac9]at this;exact this
 ·have:=ats;rw [show fG (ex 0 0 dh)=[.U bE ((ex 0 0 dh).bZ.map fM),iI 4,.U cT ((ex 0 0 dh).tasks.map bL),.U dN ((ex 0 0 dh).bS.map ie)]from rfl,<-ac9]at this;exact this
section
variable{n:Nat}{s:SC}{cs:bW}
def pJ6(l:List SC)(cs:bW):E (λN _=>Nq (FU CX EE N) N [.U fH (l.map dT),.U ak (ints cs)]) (bif decide (6<l.length)||decide (8<cs.length)then(1,[.bool true])else(0,[])):=by
 refine cP ajN ?_;rw [fY,fY,show decide ((6:Int)<(l.length:Int))=decide (6<l.length)by rw [PA];omega,show decide ((8:Int)<(cs.length:Int))=decide (8<cs.length)by rw [PA];omega];refine aJ (c:=decide (6<l.length)) (λh=> ?_) λh=> ?_
 ·rw [h];exact ao Bh (ah rfl)
 ·rw [h];refine aJ (c:=decide (8<cs.length)) (λh=> ?_) λh=> ?_
  ·rw [h];exact ao Bh (ah rfl)
  ·exact EI
def zB(c:Int):Bool:=bif decide (c<0)then true else decide (31<c)
def axR(hl:cs.length<=8):E (λN _=>Nc (FU CX EE N) N [.U ak (ints cs)]) (bif cs.any zB then(1,[.bool true])else(0,[])):=by
 have k:=JN (l:=cs) (p:=zB) (hit:=(0,[.bool true])) (done:=(1,[])) (LF:=λi N m=>Ht (FU CX EE N) N m [.U ak (ints cs),iI (ln (ints cs)),iI (i:Int)])
  (bx Wr (aC eJ (ah rfl)))
  λi hi r h1 h2=>bx Wr<|bj (ew hi)<|aV (ey hi)<|by
   generalize hx:cs[i]=x at h1 h2;rw [eT hi,hx,show gI [iI x] 0=x from rfl,ix hi (mM)];unfold zB at h1 h2;refine aJ (c:=decide (x<0)) (λh=>ao Bh (ah (h1 (iF)))) λh=> ?_;rw [h]at h1 h2;exact aJ (c:=decide (31<x)) (λh=>ao Bh (ah (h1 h))) λh=>h2 h
 refine cP ajh (ao k.diag ?_);cases cs.any zB with
 |true=>exact yN
 |false=>exact pR
def TN(p:SC->Bool):∀(l s:List SC),l.foldl (λs x=>bif p x then s++[x]else s) s=s++l.filter p
 | [],s=>by simp
 |x::l,s=>by
  rw [nX,TN p l];cases h:p x<;>simp [h]
def axQ{l:List SC}(hl:l.length<=6)(hu:∀s∈l,(∀u∈s.uses,0<=u∧u<=255)∧s.uses.length<=9223372036854775807):E (λN _=>Nb (FU CX EE N) N [.U fH (l.map dT),.U ak (ints cs),.U fH []]) (0,[.U fH ((l.filter (qY cs)).map dT)]):=by
 have k:=foldI (l:=l) (g:=λs x=>bif qY cs x then s++[x]else s) (I:=λi s=>s.length<=i) (done:=λs=>(0,[.U fH (s.map dT)]))
  (LF:=λi s N m=>Dm (FU CX EE N) N m [.U ak (ints cs),.U fH (l.map dT),iI (ln (l.map dT)),iI (i:Int),.U fH (s.map dT)])
  (λs _=>bx Wg (aC eJ (ah rfl)))
  (λi hi s hs=>by show(bif qY cs l[i]then s++[l[i]]else s).length <=i+1;cases qY cs l[i]<;>simp<;>omega)
  (λi hi s r hs hr=>by
    obtain⟨u1,u2⟩:=hu _ (eH hi);refine bx Wg (bj (ew hi) (aV (ey hi) ?_));generalize hx:l[i]=x at u1 u2 hr;rw [eT hi,hx,my,ix hi (mM)];refine ao (ark u1 u2) ?_;refine aJ (c:=qY cs x) (λh=>aV ?_ ?_) λh=> ?_
    ·exact Rq
    ·rw [h]at hr;simp only [da,lX,fW,wy]at hr;exact hr
    ·rw [h]at hr;exact hr) [] (dZ _)
 rw [TN,jR]at k;exact cP ajg (ao k.diag (ah rfl))
def pIn{q:Nat}(hu:∀u∈s.uses,0<=u∧u<=255)(hl:s.uses.length<=mx)(a:aH)(ha:a.length<=8):
 E (λN m=>Db (FU CX EE N) N m [iI (q:Int),.U oM (ov s.uses),iI (ln (ov s.uses)),iI 0,.U az a]) (0,[.U az (a++bif s.uses.any (·==(q:Int))then [[iI (q:Int),iI 0]]else [])]):=by
 have k:=JN (l:=s.uses) (p:=(·==(q:Int))) (hit:=(0,[.U az (a++[[iI (q:Int),iI 0]])])) (done:=(0,[.U az a])) (LF:=λi N m=>Db (FU CX EE N) N m [iI (q:Int),.U oM (ov s.uses),iI (ln (ov s.uses)),iI (i:Int),.U az a])
  (bx VT (aC eJ (ah rfl)))
  λi hi r h1 h2=>bx VT<|bj (ew hi)<|aV (ey hi)<|by
   have qL:=hu _ (eH hi);generalize hx:s.uses[i]=x at h1 h2 qL;rw [eT hi,hx,show gI [AV.int .u8 x] 0=x from rfl,QM qL,ix hi hl];exact aJ (c:=x==(q:Int)) (λh=>aV (jQ (by omega)) (ah (h1 h))) λh=>h2 h
 refine E.to k ?_;cases s.uses.any (·==(q:Int))with
 |true=>rfl
 |false=>show _=((0,[.U az (a++[])]):UO);rw [mv];rfl
def one_le(c:Bool)(r:Row):(bif c then [r]else []).length <=1:=by cases c<;>simp
def axP(hn:n<=8)(hu:∀u∈s.uses,0<=u∧u<=255)(hl:s.uses.length<=mx)(cs:bW)(iC:cs.length=n):
 E (λN _=>MC (FU CX EE N) N [.U ak (ints cs),.agg (dT s),.U az []]) (0,[.agg (dT s),.U az (rV n s.uses)]):=by
 have k:=gy (m:=n) (P:=λq=>∀a:aH,a.length<=q->E (λN m=>G9 (FU CX EE N) N m [iI (n:Int),iI (q:Int),.agg (dT s),.U az a]) (0,[.agg (dT s),.U az (a++((List.range n).drop q).flatMap λ(q:Nat)=>bif s.uses.any (·==(q:Int))then [[iI (q:Int),iI 0]]else [])]))
  (λa _=>by
    rw [Px (by rw [yC];exact dZ _)];refine bx V0 (aC (Pu (by omega)) (ah ?_));rw [my,IN,mv]) λq hq ih a ha=>by
    have x6:q<(List.range n).length :=by rw [yC];exact hq
    rw [kG x6,List.getElem_range,kZ,<-mu];refine bx V0 (bj (jQ (by omega)) ?_);rw [my,show gR (dT s) 4=ov s.uses from rfl,ix hq (mM)];refine ao (pIn hu hl a (by omega)).diag (ih _ ?_);show(a++bif s.uses.any (·==(q:Int))then [[iI (q:Int),iI 0]]else []).length <=q+1;rw [fC];exact Nat.add_le_add ha (one_le _ _)
 refine cP aht ?_;rw [my,fY,iC];refine ao (k [] (dZ _)).diag (ah ?_);rw [uB,jR];erw [my];rfl
def pDl(s:SC):E (λN _=>MH (FU CX EE N) N [iI s.dead,.agg (dT s)]) (0,[iI (bif s.dead==0 then s.per else s.dead),.agg (dT s)]):=by
 refine cP ahE ?_;rw [my];exact aJ (c:=s.dead==0) (λh=>ah (iF)) λh=>ah (iF)
def Fx(n t:Nat)(s:SC):ab DL 0 (oU n t s)=oU n t s:=rfl
def ne_self(x:Int):(x != x)=false:=by simp
def pEq{i:Nat}(hi:i<=6):E (λN _=>MG (FU CX EE N) N [iI (i:Int),iI (bif s.dead==0 then s.per else s.dead),.agg (dT s),.agg (oU n (i+1) s)]) (0,[.agg (dT s),.agg (oU n (i+1) s)]):=by
 refine cP ahD ?_;rw [my,Fx];have h0:(gI (oU n (i+1) s) 0 != bo ((i:Int)+1))=false:=by
  rw [show bo ((i:Int)+1)=((i+1:Nat):Int)by rw [pI (by omega) (by omega)];omega];exact ne_self _
 exact aC h0 (aC (ne_self _) (aC (ne_self _) (aC (ne_self _) (aC (ne_self _) (aC (ne_self _) (ah rfl))))))
def aon(n:Nat)(l:bW):(rV n l).length <=n:=by
 have:∀L:cp,(L.flatMap λ(q:Nat)=>bif l.any (·==(q:Int))then [([iI (q:Int),iI 0]:Row)]else []).length <=L.length:=λL=>by
  induction L with
  |nil=>exact dZ _
  |cons q L ih=>
   rw [kZ,fC,gE,YV];exact Nat.add_le_add ih (one_le _ _)
 have:=this (List.range n);rw [yC]at this;exact this
def axS{t:Nat}(hn:n<=8):E (λN m=>Df (FU CX EE N) N m [iI (ln (rV n s.uses)),iI 0,.agg (oU n t s),.U az (rV n s.uses)]) (1,[.agg (oU n t s),.U az (rV n s.uses)]):=by
 have hl:=aon n s.uses;have g6:gR (oU n t s) 6=rV n s.uses:=rfl;generalize hu:rV n s.uses=u at hl g6;refine gy (m:=u.length) (P:=λi=>E (λN m=>Df (FU CX EE N) N m [iI (ln u),iI (i:Int),.agg (oU n t s),.U az u]) (1,[.agg (oU n t s),.U az u]))
  (bx VY (aC (Pu (by simp [ln])) (ah (by rw [Fx])))) λi hi ih=> ?_
 refine bx VY (bj (jQ (by simp only [ln];omega)) (aV (oc hi) (aV (jQ (by rw [wv];exact hi)) ?_)));rw [g6,Fx,ix hi (mM)];refine aV (oc hi) (aC ?_ ih);simp
end
end Go.Proofs.YtffabbjfdgmbjaaGreat
namespace Go.ae
def Ps:=@List.mem_filter
end Go.ae
namespace Go.Proofs.YtffabbjfdgmbjaaGreat
open Go Go.ae C
section
variable{l:List SC}{cs:bW}
def asE(iC:cs.length<=8)(hl:l.length<=6)(hu:∀s∈l,(∀u∈s.uses,0<=u∧u<=255)∧s.uses.length<=mx):
 E (λN m=>Dl (FU CX EE N) N m [.U ak (ints cs),.U fH (l.map dT),iI (ln (l.map dT)),iI 0,.U dY (mL cs.length l)]) (1,[.U dY (mL cs.length l)]):=by
 refine gy (m:=l.length) (P:=λi=>E (λN m=>Dl (FU CX EE N) N m [.U ak (ints cs),.U fH (l.map dT),iI (ln (l.map dT)),iI (i:Int),.U dY (mL cs.length l)]) (1,[.U dY (mL cs.length l)]))
  (bx V7 (aC eJ (ah rfl))) λi hi ih=> ?_
 obtain⟨u1,u2⟩:=hu _ (eH hi);have rI:i<(mL cs.length l).length :=by rw [DY];exact hi
 have gr:gA (mL cs.length l) ((i:Int).toNat)=oU cs.length (i+1) l[i]:=by
  rw [<-Zg _ _ _ hi,wv];simp [gA,List.getD,rI]
 refine bx V7 (bj (ew hi) (aV (ey hi) (aV (oc rI) (aV (jQ (by rw [wv];exact rI)) ?_))));rw [eT hi,gr,my,Fx,ix hi (mM)];generalize l[i]=s at u1 u2;refine ao (pDl s) ?_;erw [my];refine ao (pEq (by omega)) (bj rfl ?_);erw [my];refine ao (axP iC u1 u2 cs rfl) (aC (ne_self _) ?_);erw [Fx];exact ao (axS iC).diag (aC rfl ih)
def atE(h1:l.length<=6)(h2:cs.length<=8)(h3:cs.any zB=false)(hu:∀s∈l,∀u∈s.uses,0<=u∧u<=255){m:List SC}(hm:l.filter (qY cs)=m)(h0:1<=m.length):BL cs m:=by
 subst hm;have hf:=List.length_filter_le (qY cs) l;refine⟨h2,λc hc=> ?_,h0,by omega,λs hs=> ?_,λs hs u Gw=> ?_⟩
 ·have:=Pt.1 h3 c hc;unfold zB at this
  by_cases q:c<0
  ·simp [q]at this
  ·simp [q]at this;omega
 ·have:=(Ps.1 hs).2;unfold qY at this;simp only [bc]at this;exact apm this.2
 ·obtain⟨xZ,this⟩:=Ps.1 hs;unfold qY at this;simp only [bc,nU]at this;have:=Pt.1 this.1 u Gw;obtain⟨g1,g2⟩:=hu s xZ u Gw;unfold zA at this
  by_cases q:(cs.length:Int)<=u
  ·simp [q]at this
  ·simp only [q,decide_false,dj,fr,Int.not_lt]at this;exact⟨g1,by omega,this⟩
def ar9(l:List SC)(cs:bW)(hu:∀s∈l,(∀u∈s.uses,0<=u∧u<=255)∧s.uses.length<=9223372036854775807):Ev NK [.U fH (l.map dT),.U ak (ints cs)] (0,[.bool true]):=by
 refine bu akE (ao (pJ6 l cs) ?_);cases h1:decide (6<l.length)||decide (8<cs.length)with
 |true=>exact pR
 |false=>
  simp only [Bool.or_eq_false_iff,decide_eq_false_iff_not,Nat.not_lt]at h1;refine bj rfl (ao (axR h1.2) ?_);cases h2:cs.any zB with
  |true=>exact pR
  |false=>
   refine bj rfl (ao (axQ h1.1 hu) ?_);cases h3:l.filter (qY cs)with
   |nil=>exact bj rfl (ao Bh (ah rfl))
   |cons x m=>
    have b:=atE h1.1 h1.2 h2 (λs hs=>(hu s hs).1) h3 (by rw [gE];omega);have hm:∀s∈x::m,s∈l:=λs hs=>(Ps.1 (h3▸hs)).1;have aQ:∀s∈x::m,s.Ok:=λs hs=>⟨(b.rg s hs).len,(hu s (hm s hs)).1⟩;have iP:∀s∈x::m,(∀u∈s.uses,0<=u∧u<=255)∧s.uses.length<=mx:=λs hs=>⟨(hu s (hm s hs)).1,by have:=(b.rg s hs).len;simp only [mx];omega⟩;refine aC ?_ (ao (asb aQ h1.2 b.l2) (ao (aoO b) (ao (o:=(0,[.U dY (mL cs.length (x::m))])) ?_ (bj rfl (ao (asE h1.2 b.l2 iP).diag (aC rfl (ao Bh (ah rfl))))))))
    ·show(ln ((x::m).map dT)==0)=false;rw [fY,gE,D5];omega
    ·refine cP aiM (aC rfl (aC ?_ (ah rfl)));show(ln (mL cs.length (x::m)) != ln ((x::m).map dT))=false;rw [fY,show ln (mL cs.length (x::m))=((x::m).length :Int)by unfold ln;rw [DY]];exact ne_self _
end
open Go Go.ae
set_option maxRecDepth 100000
noncomputable section
set_option maxRecDepth 1000000 in
def hE:ke (TW CX) EE:=by repeat' first|exact trivial|exact⟨by kernel_rfl,by kernel_rfl,by kernel_rfl⟩|refine⟨?_,?_⟩|kernel_rfl
end
end Go.Proofs.YtffabbjfdgmbjaaGreat
namespace Go.ae
def ack{p:Prop}(h:p:=by
 cases a<;>simp only [fj,jG]at h
 have e:=eq_of_beq h;subst e;exact⟨_,rfl⟩):p:=h
end Go.ae
namespace Go.Proofs.YtffabbjfdgmbjaaGreat
open Go Go.ae C
section
variable{a:AV}{row:Row}{t:TypeId}{xs:aH}
def wf_u8{v:Int}(h:(Lit.int .u8 v).wf =true):0<=v∧v<=255:=by
 simp only [Lit.wf,IntKind.min,IntKind.max,IntKind.signed,IntKind.bits,bc,fr,jG,ly]at h;omega
def wK{k:Kind}{ks:dv}(h:cZ (k::ks) row=true):∃a r,row=a::r∧fj k a=true∧cZ ks r=true:=by
 match row,h with
 | [],h=>exact yJ
 |a::r,h=>
  simp only [cZ,bc]at h;exact⟨a,r,rfl,h.1,h.2⟩
def yO{k:IntKind}(h:fj (.int k) a=true):∃n,a= .int k n:=ack
def aqu(h:fj (.slice t) a=true):∃n,a= .U t n:=ack
def P1(h:cZ [] row=true):row=[]:=by cases row<;>simp_all [cZ]
def lift{α:Type}{enc:α->Row}{P:α->Prop}:∀{xs:aH},(∀r∈xs,∃a,r=enc a∧P a)->∃l:List α,xs=l.map enc∧l.length=xs.length∧∀a∈l,P a
 | [],_=>⟨[],rfl,rfl,λa h=>by cases h⟩
 |r::rs,h=>by
  obtain⟨a,rfl,h1⟩:=h r (by simp);obtain⟨l,rfl,h2,h3⟩:=lift (xs:=rs) λr hr=>h r (by simp [hr]);exact⟨a::l,rfl,by simp,λy hy=>by
   rcases dA.1 hy with rfl|hy
   ·exact h1
   ·exact h3 y hy⟩
def XP{e:TypeId}(ha:(CX.ti t).u.agg =false)(hk:(CX.ti t).ks =[.slice e]){x:AV}(h:SG CX t x):∃rows,x= .U e rows∧Wf CX.K (.U e rows):=by
 rcases h with⟨h1,_⟩|⟨_,h2,hw⟩
 ·rw [ha]at h1;cases h1
 ·rw [hk]at h2;cases x<;>simp [cZ,fj]at h2
  subst h2;exact⟨_,rfl,hw⟩
def asR:CX.K 3=[.int .i64]:=l8
def ax7:CX.K 5=[.int .u8]:=l8
def arJ:CX.K 27=[.int .i64,.int .i64,.int .i64,.int .i64,.slice 5,.int .u8]:=l8
def aqv(h:Wf CX.K (.U 3 xs)):∃l:bW,xs=ints l:=by
 cases h with
 |U _ _ hl hk hw=>
  obtain⟨l,h1,_⟩:=lift (enc:=λn:Int=>[iI n]) (P:=λ_=>True) (xs:=xs) λr hr=>by
   have h:=hk r hr;rw [asR]at h;obtain⟨a,r,rfl,h1,h2⟩:=wK h;obtain⟨n,rfl⟩:=yO h1;obtain rfl:=P1 h2;exact⟨n,rfl,trivial⟩
  exact⟨l,h1⟩
def aq1(h:Wf CX.K (.U 5 xs)):∃l:bW,xs=ov l∧(∀u∈l,0<=u∧u<=255)∧l.length<=9223372036854775807:=by
 cases h with
 |U _ _ hl hk hw=>
  obtain⟨l,h1,h2,h3⟩:=lift (enc:=λu:Int=>[AV.int .u8 u]) (P:=λu=>0<=u∧u<=255) (xs:=xs) λr hr=>by
   have h:=hk r hr;rw [ax7]at h;obtain⟨a,r,rfl,h1,h2⟩:=wK h;obtain⟨n,rfl⟩:=yO h1;obtain rfl:=P1 h2;refine⟨n,rfl,?_⟩;cases hw _ hr _ (dI ..)with
   |int _ _ h=>exact wf_u8 h
  refine⟨l,h1,h3,?_⟩;rw [h2];exact hl
def ao4(h:Wf CX.K (.U 27 xs)):∃l:List SC,xs=l.map dT∧∀s∈l,(∀u∈s.uses,0<=u∧u<=255)∧s.uses.length<=9223372036854775807:=by
 cases h with
 |U _ _ hl hk hw=>
  obtain⟨l,h1,_,h3⟩:=lift (enc:=dT) (P:=λs=>(∀u∈s.uses,0<=u∧u<=255)∧s.uses.length<=9223372036854775807) (xs:=xs) λr hr=>by
   have h:=hk r hr;have w:=hw r hr;rw [arJ]at h;obtain⟨x0,r0,rfl,q0,g0⟩:=wK h;obtain⟨x0,rfl⟩:=yO q0;obtain⟨x1,r1,rfl,q1,g1⟩:=wK g0;obtain⟨x1,rfl⟩:=yO q1;obtain⟨x2,r2,rfl,q2,g2⟩:=wK g1;obtain⟨x2,rfl⟩:=yO q2;obtain⟨x3,r3,rfl,q3,g3⟩:=wK g2;obtain⟨x3,rfl⟩:=yO q3;obtain⟨x4,r4,rfl,q4,g4⟩:=wK g3;obtain⟨x4,rfl⟩:=aqu q4;obtain⟨x5,r5,rfl,q5,g5⟩:=wK g4;obtain⟨x5,rfl⟩:=yO q5;obtain rfl:=P1 g5;obtain⟨u,rfl,h1,h2⟩:=aq1 (w (.U 5 x4) (by simp));exact⟨⟨x0,x1,x2,x3,u,x5⟩,rfl,h1,h2⟩
  exact⟨l,h1,h3⟩
def EE0:EE[NK]?=some nc:=l8
set_option maxRecDepth 100000 in
def ax6(xs:aD)(h:Bu CX [22,23] xs):∃m M',wR CX 3 m xs [] (.bool true) M':=by
 match xs,h with
 | [x0,x1],⟨LD,hx1,_⟩=>
   obtain⟨r0,rfl,w0⟩:=XP (e:=27) (l8) (l8) LD;obtain⟨r1,rfl,w1⟩:=XP (e:=3) (l8) (l8) hx1;obtain⟨l,rfl,hl⟩:=ao4 w0;obtain⟨cs,rfl⟩:=aqv w1;obtain⟨B,hB⟩:=ar9 l cs hl;obtain⟨j,x,h1,h2,h3⟩:=aem hX hE B _ _ EE0 _ _ (hB B B (dZ _) (dZ _));cases h2;cases h1;exact⟨_,_,h3⟩
end
open Go Go.ae Go.ChangeShapes Go.WideShapes Go.ChangeAt Go.RowKit
theorem aa:ownKnob Tryz.prog.godebug=none:=by kernel_rfl
theorem laidOut:laidOutB Tryz.prog=true:=by kernel_rfl
theorem aro:vB CX rdL=true:=by kernel_rfl
set_option maxRecDepth 100000 in
theorem aqr(os:Os)(started:os.Started)(H:Type)(enc:TypeId×Value->H):
 ReturnsInHanded {} Tryz.checked os 3 .any (Rows.profileBuiltSpec.pre6 enc Tryz.prog Tryz.f3 Rows.profileBuiltRow.domain false) (Rows.profileBuiltSpec.post enc Tryz.prog Tryz.f3 false true false false):=by
 refine returnsInHanded_of_change (C:=Tryz.checked) aa started (by kernel_rfl) Tryz.func3
  (ChangeSpec.witness6 (enc:=enc) (C:=Tryz.checked) false {blocks:= #[],args:= #[.slice none 0 0,.slice none 0 0],vars:=[]} 8 (by kernel_rfl) (by kernel_rfl) (by kernel_rfl) (by kernel_rfl)) ?_
 intro W base args ds gs before tG hW _ _;exact am9 (X:=CX) hX (λ_=>rfl) laidOut (ts:=[22,23]) (tb:=4) (S:=rdL) (by kernel_rfl) (by kernel_rfl) Tryz.underlying4 aro (by kernel_rfl) (by kernel_rfl) rfl
  (λds hds=>by match ds,hds with| [d0,d1],_=>rfl) ax6 W base args ds gs before tG hW
theorem profileBuilt_holds:Rows.ProfileBuiltSaid:=
 OpenClaim.holds_of_wide 3 Tryz.f3 rfl rfl rfl rfl rfl rfl rfl ⟨rfl,rfl,rfl,rfl,rfl⟩ rfl rfl rfl rfl rfl (by kernel_rfl) Tryz.func3 (by kernel_rfl)
  (A9 (by kernel_rfl)) (by unfold Func.isWrapper;first|(rw [if_pos (by decide+kernel)];kernel_rfl)|(rw [if_neg (by decide+kernel)];exact⟨rfl,rfl⟩))
  (λos started H enc _=>aqr os started H enc)
#print axioms profileBuilt_holds
end Go.Proofs.YtffabbjfdgmbjaaGreat
