/-
  What is read of an argument, as typed data.
-/
import Derived.Test.YtomkobcipaligaaGreatDoorW5
import Derived.Test.YtomkobcipaligaaGreatDoorW4
set_option linter.all false
set_option linter.deprecated false
set_option maxHeartbeats 4000000
namespace Go.Proofs.YtomkobcipaligaaGreatDoor
open Go Go.az
def eW:List TK->List CS
 | []=>[]
 |x::xs=>fB x.body++eW xs
section
variable {p:PG} (hp:p.Ok)
include hp in
theorem aNI(hn:(eW p.tasks).length <=oP)(h:Ev tD [aG p] (0,[cu])):Ev WM [aG p] (0,[fh (eW p.tasks)]):=by
 have k:=fD (m:=p.tasks.length) (P:=λi=>∀acc:List CS,acc.length+(eW (p.tasks.drop i)).length <=oP->bP Nc [fq (p.tasks.map cE),iI (ln (p.tasks.map cE)),iI (i:Int),J [.du 35 [] [.ptr 1 0 0,.ptr 0 0 0]],J [.aA 2],fh acc] (0,[J [.du 35 [] [.ptr 1 0 0,.ptr 0 0 0]],J [.aA 2],fh (acc++eW (p.tasks.drop i))]))
  (λacc _=>by
    rw [gp];exact bF adu (aC dU (af (by simp [eW]))))
  λi hi ih acc hb=>by
   have hk:=hp.task _ (dO hi);have gb:cO dD 2 (gA (p.tasks.map cE) ((i:Int).toNat))=encS p.tasks[i].body :=by rw [fM hi,QL]
   have e:eW (p.tasks.drop i)=fB p.tasks[i].body ++eW (p.tasks.drop (i+1)):=by rw [gF hi];rfl
   rw [e]at hb⊢;simp only [fy]at hb;have j:=Kt p.tasks[i].body hk.body acc (by omega);refine bF adu (bu (dr hi) (aH (cH hi) ?_));rw [gb,ix hi hp.tasks];refine aj j ?_;rw [<-iJ];exact ih (acc++fB p.tasks[i].body) (xZ)
 have k0:=k [] (by rw [gD];simpa using hn);rw [gD]at k0;exact bz aAj (aj h (bj (aj k0.diag aL)))
include hp in
theorem aNH(hn:(eW p.tasks).length <=oP)(h:Ev tG [aG p] (0,[cu])):Ev Xn [aG p] (0,[fh (eW p.tasks)]):=by
 have k:=fD (m:=p.tasks.length) (P:=λi=>∀acc:List CS,acc.length+(eW (p.tasks.drop i)).length <=oP->bP Ns [iI (i:Int),aG p,fh acc] (0,[aG p,fh (acc++eW (p.tasks.drop i))]))
  (λacc _=>by
    rw [gp];exact bF adS (aC (dU (f:=cE) (l:=p.tasks)) (af (by simp [eW];rfl))))
  λi hi ih acc hb=>by
   have hk:=hp.task _ (dO hi);have gb:cO dD 2 (gA (gR (mN p) 2) ((i:Int).toNat))=encS p.tasks[i].body :=Zc;have e:eW (p.tasks.drop i)=fB p.tasks[i].body ++eW (p.tasks.drop (i+1)):=by rw [gF hi];rfl
   rw [e]at hb⊢;simp only [fy]at hb;have j:=Ks p.tasks[i].body hk.body acc (by omega);refine bF adS (bu (dr (f:=cE) hi) (aH (cH (f:=cE) hi) ?_));rw [gb,ix hi hp.tasks];refine aj j ?_;rw [<-iJ];exact ih (acc++fB p.tasks[i].body) (xZ)
 have k0:=k [] (by rw [gD];simpa using hn);rw [gD]at k0;exact bz aAM (aj h (bj (aj k0.diag aL)))
theorem aDw:∀s:CS,s.Ok->∃m:Int,Ev NY [aS s] (0,[iI m]):=by
 refine CS.ind λs ih bB=> ?_;have kP:∀y∈s.kids,y.Ok:=JC;have kl:=OI bB;have k:=fD (m:=s.kids.length) (P:=λi=>∀x:Int,∃m:Int,bP MQ [iI x,iI (i:Int),fh s.kids] (0,[iI m,fh s.kids]))
  (λx=>⟨x,bF ac2 (aC dU aL)⟩)
  λi hi fb x=>by
   have hm:=dO hi;have gs:dv (gA (s.kids.map encS) ((i:Int).toNat))=encS s.kids[i]:=Jd;obtain⟨m1,j⟩:=ih s.kids[i] hm (kP _ hm);obtain⟨m2,j2⟩:=fb (bx (x+m1));refine⟨m2,bF ac2 (bu (dr hi) (aH (cH hi) (aH (toN_lt (cH hi)) ?_)))⟩;rw [gs,E4 (by omega)];exact aj j j2
 obtain⟨m,k0⟩:=k 1;refine⟨m,bz azL ?_⟩;rw [fE];exact aj (aaj bB) (aj k0.diag aL)
include hp in
theorem aDM:∃b,Ev Wn [aG p] (0,[ak b]):=by
 have j6:∃b,bM VY [aG p] (bif b then(1,[cu,aG p])else(0,[aG p])):=by
  refine⟨bif decide (200<ln (cf p.bw))then true else bif decide (40<ln (p.tasks.map cE))then true else decide (40<ln (p.dp.map fr)),bU aya (av (c:=decide (200<ln (cf p.bw))) (λa=>af (rf)) λa=>av (c:=decide (40<ln (p.tasks.map cE))) (λb=>af (nC)) λb=>av (c:=decide (40<ln (p.dp.map fr))) (λc=>af (wj)) λc=>af (wj))⟩
 have k:=fD (m:=p.tasks.length) (P:=λi=>∀x:Int,∃b,bP HW [iI x,iI (i:Int),aG p] (bif b then(0,[cu,aG p])else(1,[aG p])))
  (λx=>⟨false,bF ac6 (aC (dU (f:=cE) (l:=p.tasks)) aL)⟩)
  λi hi ih x=>by
   have hk:=hp.task _ (dO hi);have gb:cO dD 2 (gA (gR (mN p) 2) ((i:Int).toNat))=encS p.tasks[i].body :=Zc;have ge:gR (gA (gR (mN p) 2) ((i:Int).toNat)) 1=p.tasks[i].au.map iM:=by
    show gR (gA (p.tasks.map cE) ((i:Int).toNat)) 1=_;rw [fM hi,aaC]
   obtain⟨m,j⟩:=aDw p.tasks[i].body hk.body;have C:∀r:UO,_->bP HW [iI x,iI (i:Int),aG p] r:=λr h=>by
    refine bF ac6 (bu (dr (f:=cE) hi) (aH (cH (f:=cE) hi) ?_));rw [gb,ge];refine aj j ?_;exact h
   cases h1:decide (9000<bx (x+m))with
   |true=>exact⟨true,C _ (bu h1 aL)⟩
   |false=>
    cases h2:decide (20<ln (p.tasks[i].au.map iM))with
    |true=>exact⟨true,C _ (aC h1 (aH (cH (f:=cE) hi) (bu h2 aL)))⟩
    |false=>
     obtain⟨b,i2⟩:=ih (bx (x+m));rw [<-ix hi hp.tasks]at i2;exact⟨b,C _ (aC h1 (aH (cH (f:=cE) hi) (aC h2 i2)))⟩
 obtain⟨b,j⟩:=j6;obtain⟨b2,k0⟩:=k 0;cases b with
 |true=>exact⟨true,bz Wa (aj j (bj aL))⟩
 |false=>
  cases b2 with
  |true=>exact⟨true,bz Wa (aj j (aX (aj k0.diag (aX aL))))⟩
  |false=>exact⟨false,bz Wa (aj j (aX (aj k0.diag (bj aL))))⟩
end
end Go.Proofs.YtomkobcipaligaaGreatDoor
namespace Go.az
def akM{p:Prop}(h:p:=by
 have i1:=yM d n b hn;have l1:=i1.lo hn
 by_cases h0:(bX d n b).2 <0
 ·rw [if_pos h0];exact i1.then hn ⟨λh=>⟨rfl,h⟩,λh=>by omega⟩
 ·rw [if_neg h0];have i2:=yM u (bX d n b).2 b (by omega);exact i1.then hn ⟨λh=>by omega,λ_=>i2⟩):p:=h
def JD{p:Prop}(h:p:=by
 rw [if_pos h0];exact⟨λh=>⟨rfl,h⟩,λh=>by omega⟩):p:=h
def Jn{p:Prop}(h:p:=by exact⟨λh=>by omega,λh=>i1.then h i2⟩):p:=h
end Go.az
namespace Go.Proofs.YtomkobcipaligaaGreatDoor
open Go Go.az
section
variable{b:CS}{n n':Int}{P P':List CS}
mutual
def bX:CS->Int->CS->CS×Int
 | .mk f l d h a,n,b=>if n=0 then(b,-1)else
    (.mk f (gQ l (fC d (n- 1) b).2 b).1 (fC d (n- 1) b).1 (jw h (gQ l (fC d (n- 1) b).2 b).2 b).1 (mj a (jw h (gQ l (fC d (n- 1) b).2 b).2 b).2 b).1,(mj a (jw h (gQ l (fC d (n- 1) b).2 b).2 b).2 b).2)
def gQ:List CS->Int->CS->List CS×Int
 | [],n,_=>([],n)
 |s::ss,n,b=>if n<0 then(s::ss,n)else((bX s n b).1 ::(gQ ss (bX s n b).2 b).1,(gQ ss (bX s n b).2 b).2)
def fC:List CD->Int->CS->List CD×Int
 | [],n,_=>([],n)
 |s::ss,n,b=>if n<0 then(s::ss,n)else((lO s n b).1 ::(fC ss (lO s n b).2 b).1,(fC ss (lO s n b).2 b).2)
def lO:CD->Int->CS->CD×Int
 | .mk d u,n,b=>if(bX d n b).2 <0 then(.mk (bX d n b).1 u,(bX d n b).2)else(.mk (bX d n b).1 (bX u (bX d n b).2 b).1,(bX u (bX d n b).2 b).2)
def jw:List CH->Int->CS->List CH×Int
 | [],n,_=>([],n)
 |s::ss,n,b=>if n<0 then(s::ss,n)else((sB s n b).1 ::(jw ss (sB s n b).2 b).1,(jw ss (sB s n b).2 b).2)
def sB:CH->Int->CS->CH×Int
 | .mk e x,n,b=>(.mk e (bX x n b).1,(bX x n b).2)
def mj:List CA->Int->CS->List CA×Int
 | [],n,_=>([],n)
 |s::ss,n,b=>if n<0 then(s::ss,n)else((mK s n b).1 ::(mj ss (mK s n b).2 b).1,(mj ss (mK s n b).2 b).2)
def mK:CA->Int->CS->CA×Int
 | .mk k g m e x y,n,b=>if(bX x n b).2 <0 then(.mk k g m e (bX x n b).1 y,(bX x n b).2)else(.mk k g m e (bX x n b).1 (bX y (bX x n b).2 b).1,(bX y (bX x n b).2 b).2)
end
structure Pt(P P':List CS)(n n':Int)(b:CS):Prop where
 hit:n<(P.length:Int)->n'= -1∧∀c,P[n.toNat]?=some c->P'.length+(fB c).length =P.length+(fB b).length
 J7:(P.length:Int)<=n->P'.length=P.length∧n'=n- P.length
def Pl(P P':List CS)(n n':Int)(b:CS):Prop:=(n= -1->P'.length=P.length∧n'= -1)∧(0<=n->Pt P P' n n' b)
def Pt.then{Q Q':List CS}{KF:Int}(h0:0<=n)(h:Pt P P' n n' b)(k:Pl Q Q' n' KF b):Pt (P++Q) (P'++Q') n KF b:=by
 constructor
 ·intro hn;rw [fy]at hn
  by_cases hp:n<(P.length:Int)
  ·obtain⟨h1,h2⟩:=h.hit hp;obtain⟨k1,k2⟩:=k.1 h1;refine⟨k2,λc hc=> ?_⟩;rw [ju (by omega)]at hc;have:=h2 c hc;exact xZ
  ·obtain⟨h1,h2⟩:=h.J7 (by omega);have kk:=k.2 (by omega);obtain⟨k1,k2⟩:=kk.hit (by omega);refine⟨k1,λc hc=> ?_⟩;rw [kv (by omega),show n.toNat- P.length=n'.toNat by omega]at hc;have:=k2 c hc;exact xZ
 ·intro hn;simp only [fy]at hn⊢;obtain⟨h1,h2⟩:=h.J7 (by omega);obtain⟨k1,k2⟩:=(k.2 (by omega)).J7 (by omega);exact⟨by omega,by omega⟩
def Pl.then{P P' Q Q':List CS}{n n' KF:Int}{b:CS}(h:Pl P P' n n' b)(k:Pl Q Q' n' KF b):Pl (P++Q) (P'++Q') n KF b:=by
 refine⟨λhn=> ?_,λhn=>Pt.then hn (h.2 hn) k⟩;obtain⟨h1,h2⟩:=h.1 hn;obtain⟨k1,k2⟩:=k.1 h2;exact⟨xZ,k2⟩
def Pl.nil:Pl [] [] n n b:=⟨λh=>⟨rfl,h⟩,λh=>⟨λh2=>by simp at h2;omega,λh2=>⟨rfl,by simp⟩⟩⟩
def Pt.lo(h:Pt P P' n n' b)(h0:0<=n):(n'= -1∨0<=n')∧n'<=n:=by
 by_cases hp:n<(P.length:Int)
 ·have:=(h.hit hp).1;omega
 ·have:=(h.J7 (by omega)).2;omega
def Pl.lo{P P':List CS}{n n':Int}{b:CS}(h:Pl P P' n n' b)(h0:n= -1∨0<=n):(n'= -1∨0<=n')∧n'<=n:=by
 rcases h0 with h0|h0
 ·have:=(h.1 h0).2;omega
 ·exact(h.2 h0).lo h0
mutual
theorem yM:∀(s:CS) (n:Int) (b:CS),0<=n->Pt (fB s) (fB (bX s n b).1) n (bX s n b).2 b
 | .mk f l d h a,n,b,hn=>by
   simp only [bX]
   by_cases h0:n=0
   ·subst h0;rw [if_pos rfl];refine⟨λ_=>⟨rfl,λc hc=> ?_⟩,λh2=> ?_⟩
    ·rw [show(0:Int).toNat =0 from rfl]at hc;simp only [fB,E2]at hc;injection hc with hc;subst hc;exact Nat.add_comm _ _
    ·simp only [fB,nc]at h2;omega
   ·rw [if_neg h0];have i1:=lpD d (n- 1) b (by omega);have l1:=i1.lo (by omega);have i2:=lpS l _ b l1.1;have l2:=i2.lo l1.1;have i3:=lpH h _ b l2.1;have l3:=i3.lo l2.1;have i4:=lpA a _ b l3.1;have t:=i1.then (i2.then (i3.then i4));have tt:=t.2 (by omega);simp only [fB];refine⟨λh2=> ?_,λh2=> ?_⟩
    ·simp only [nc]at h2⊢;obtain⟨q1,q2⟩:=tt.hit (by omega);refine⟨q1,λc hc=> ?_⟩;rw [show n.toNat=(n- 1).toNat +1 by omega,W2]at hc;have:=q2 c hc;omega
    ·simp only [nc]at h2⊢;obtain⟨q1,q2⟩:=tt.J7 (by omega);exact⟨by omega,by omega⟩
theorem lpS:∀(l:List CS) (n:Int) (b:CS),(n= -1∨0<=n)->Pl (iu l) (iu (gQ l n b).1) n (gQ l n b).2 b
 | [],n,b,_=>by simp only [iu,gQ];exact Pl.nil
 |s::ss,n,b,hn=>by
  simp only [gQ]
  by_cases h0:n<0
  ·exact JD
  ·rw [if_neg h0];have i1:=yM s n b (by omega);have i2:=lpS ss _ b (i1.lo (by omega)).1;exact Jn
theorem lpD:∀(l:List CD) (n:Int) (b:CS),(n= -1∨0<=n)->Pl (kI l) (kI (fC l n b).1) n (fC l n b).2 b
 | [],n,b,_=>by simp only [kI,fC];exact Pl.nil
 |s::ss,n,b,hn=>by
  simp only [fC]
  by_cases h0:n<0
  ·exact JD
  ·rw [if_neg h0];have i1:=ptD s n b (by omega);have i2:=lpD ss _ b (i1.lo (by omega)).1;exact Jn
theorem ptD:∀(s:CD) (n:Int) (b:CS),0<=n->Pt (Gk s) (Gk (lO s n b).1) n (lO s n b).2 b
 | .mk d u,n,b,hn=>by
   simp only [lO];exact akM
theorem lpH:∀(l:List CH) (n:Int) (b:CS),(n= -1∨0<=n)->Pl (nZ l) (nZ (jw l n b).1) n (jw l n b).2 b
 | [],n,b,_=>by simp only [nZ,jw];exact Pl.nil
 |s::ss,n,b,hn=>by
  simp only [jw]
  by_cases h0:n<0
  ·exact JD
  ·rw [if_neg h0];have i1:=ptH s n b (by omega);have i2:=lpH ss _ b (i1.lo (by omega)).1;exact Jn
theorem ptH:∀(s:CH) (n:Int) (b:CS),0<=n->Pt (CG s) (CG (sB s n b).1) n (sB s n b).2 b
 | .mk e x,n,b,hn=>by simp only [CG,sB];exact yM x n b hn
theorem lpA:∀(l:List CA) (n:Int) (b:CS),(n= -1∨0<=n)->Pl (oB l) (oB (mj l n b).1) n (mj l n b).2 b
 | [],n,b,_=>by simp only [oB,mj];exact Pl.nil
 |s::ss,n,b,hn=>by
  simp only [mj]
  by_cases h0:n<0
  ·exact JD
  ·rw [if_neg h0];have i1:=ptA s n b (by omega);have i2:=lpA ss _ b (i1.lo (by omega)).1;exact Jn
theorem ptA:∀(s:CA) (n:Int) (b:CS),0<=n->Pt (Gl s) (Gl (mK s n b).1) n (mK s n b).2 b
 | .mk k g m e d u,n,b,hn=>by
   simp only [mK];exact akM
end
end
end Go.Proofs.YtomkobcipaligaaGreatDoor
namespace Go.az
def ai9{p:Prop}(h:p:=by
 cases x with
 |mk k g n e b a=>cases g;cases b;cases a;cases y;kernel_rfl):p:=h
end Go.az
namespace Go.Proofs.YtomkobcipaligaaGreatDoor
open Go Go.az
section
variable{α:Type}
def rh(f:α->Row)(a:List α)(x:α)(b:List α):gA ((a++x::b).map f) ((a.length:Int).toNat)=f x:=by
 rw [mE,sf (by simp)];simp
def BV(f:α->Row)(a:List α)(x:α)(b:List α)(y:α):((a++x::b).map f).set ((a.length:Int).toNat) (f y)=((a++[y])++b).map f:=by
 rw [mE,oy,nf,iJ,oy];have:a.length=(a.map f).length :=by simp
 rw [this,agt _ _ (gz _),II];rfl
def ON(d:CD):(cq d).length =42:=by
 cases d with
 |mk x y=>show(encS x++encS y).length =42;rw [fy,ID,ID]
def aMr(x y:CS):sT (Bk (encS x)) [(21,bE (gI (encS y) 0)),(22,iI (gI (encS y) 1)),(23,iI (gI (encS y) 2)),(24,iI (gI (encS y) 3)),(25,iI (gI (encS y) 4)),(26,iI (gI (encS y) 5)),(27,ak (gB (encS y) 6)),(28,ak (gB (encS y) 7)),(29,ak (gB (encS y) 8)),(30,ak (gB (encS y) 9)),(31,ak (gB (encS y) 10)),(32,bE (gI (encS y) 11)),(33,aT (gR (encS y) 12)),(34,aT (gR (encS y) 13)),(35,bH (gR (encS y) 14)),(36,bH (gR (encS y) 15)),(37,aa (gR (encS y) 16)),(38,bD (gR (encS y) 17)),(39,c5 (gR (encS y) 18)),(40,cZ (gR (encS y) 19)),(41,cQ (gR (encS y) 20))]=cq (.mk x y):=by
 cases x;cases y;kernel_rfl
def aMq(x:CS)(d:CD):sT (Bk (encS x)) [(21,bE (gI (cq d) 21)),(22,iI (gI (cq d) 22)),(23,iI (gI (cq d) 23)),(24,iI (gI (cq d) 24)),(25,iI (gI (cq d) 25)),(26,iI (gI (cq d) 26)),(27,ak (gB (cq d) 27)),(28,ak (gB (cq d) 28)),(29,ak (gB (cq d) 29)),(30,ak (gB (cq d) 30)),(31,ak (gB (cq d) 31)),(32,bE (gI (cq d) 32)),(33,aT (gR (cq d) 33)),(34,aT (gR (cq d) 34)),(35,bH (gR (cq d) 35)),(36,bH (gR (cq d) 36)),(37,aa (gR (cq d) 37)),(38,bD (gR (cq d) 38)),(39,c5 (gR (cq d) 39)),(40,cZ (gR (cq d) 40)),(41,cQ (gR (cq d) 41))]=cq (.mk x d.u):=by
 cases d with
 |mk a y=>cases x;cases a;cases y;kernel_rfl
def aMp(x:CH)(y:CS):setAt (cA x) 1 (encS y)=cA (.mk x.eQ y):=by
 cases x with
 |mk e b=>cases b;cases y;kernel_rfl
def aMt(x:CA)(y:CS):setAt (cw x) 12 (encS y)=cw (.mk x.kind x.guard x.entry x.E y x.after):=ai9
def aMs(x:CA)(y:CS):setAt (cw x) 33 (encS y)=cw (.mk x.kind x.guard x.entry x.E x.body y):=ai9
end
end Go.Proofs.YtomkobcipaligaaGreatDoor
namespace Go.az
def PZ{p:Prop}(h:p:=by rw [nN];simp only [mx]at hlen;simp;omega):p:=h
def Jk{p:Prop}(h:p:=by
 rw [if_pos hn];exact fin (.inl hn)):p:=h
def Jj{p:Prop}(h:p:=by rw [<-hr,zw];omega):p:=h
def Ji{p:Prop}(h:p:=by rw [dq];simp [hp]):p:=h
def Jb{p:Prop}(h:p:=by rw [nN];omega):p:=h
end Go.az
namespace Go.Proofs.YtomkobcipaligaaGreatDoor
open Go Go.az
abbrev nB:Int:=4611686018427387904
abbrev fS(s:CS)(L D H A:aZ):AV:= J (cW s.f L D H A)
theorem ald(s:CS):aS s=fS s (s.L.map encS) (s.D.map cq) (s.H.map cA) (s.A.map cw):=by rw [aS,Fj]
section
variable {s:CS} (bB:s.Ok) {b:CS}
def Cp(y:CS):Prop:=∀n:Int,0<=n->n<=nB->∀b:CS,Ev xH [aS y,iI n,aS b] (0,[aS (bX y n b).1,iI (bX y n b).2])
include bB in
theorem ptL(ih:∀y∈s.L,Cp y){D H A:aZ}{n:Int}(h0:n= -1∨0<=n)(h1:n<=nB):
 bM NR [iI n,fS s (s.L.map encS) D H A,aS b] (0,[iI (gQ s.L n b).2,fS s ((gQ s.L n b).1.map encS) D H A,aS b]):=by
 have hL:s.L.length<=mx:=by cases bB with|mk _ hf hL hD hH hA h1 h2 hk=>exact hL
 have gb:dv (encS b)=encS b:=fE b;have fin:∀{X:aZ} {i n:Int},(n<0∨ln X<=i)->bP Ey [iI n,iI i,fS s X D H A,aS b] (0,[iI n,fS s X D H A,aS b]):=λ{X i n} h=>by
  have j:bM Nj [iI n,iI i,fS s X D H A] (1,[fS s X D H A]):=by
   refine bU adA (av (c:=decide (i<ln X)) (λa=>aC (c:=decide (0<=n)) ?_ aL) λ_=>aL);simp at a⊢;omega
  refine bF adU (aj j (bj ?_));rw [gb];exact aL
 have k:=fD (m:=s.L.length) (P:=λi=>∀n:Int,(n= -1∨0<=n)->n<=nB->∀Lp:List CS,Lp.length=i->bP Ey [iI n,iI (i:Int),fS s ((Lp++s.L.drop i).map encS) D H A,aS b] (0,[iI (gQ (s.L.drop i) n b).2,fS s ((Lp++(gQ (s.L.drop i) n b).1).map encS) D H A,aS b]))
  (λn _ _ Lp hp=>by
    rw [gp];simp only [gQ];exact fin (.inr (Ji)))
  λi hi fb n h0 h1 Lp hp=>by
   rw [gF hi];simp only [gQ]
   by_cases hn:n<0
   ·exact Jk
   ·rw [if_neg hn];have hm:=dO hi;have lo:=(yM s.L[i] n b (by omega)).lo (by omega);have e:=ih _ hm n (by omega) h1 b;subst hp;generalize hx:s.L[Lp.length]'hi=x at*;generalize hr:s.L.drop (Lp.length+1)=rest at*;have hlen:Lp.length+(rest.length+1)<=mx:=by
     have:s.L.length=Lp.length+(rest.length+1):=Jj;omega
    have gs:dv (gA ((Lp++x::rest).map encS) ((Lp.length:Int).toNat))=encS x:=by rw [rh,fE]
    have nN:((Lp++x::rest).map encS).length =Lp.length+(rest.length+1):=by simp
    have j:bM Nj [iI n,iI (Lp.length:Int),fS s ((Lp++x::rest).map encS) D H A] (0,[fS s ((Lp++x::rest).map encS) D H A]):=by
     refine bU adA (bu (c:=decide ((Lp.length:Int)<ln ((Lp++x::rest).map encS))) (sq) (bu (c:=decide (0<=n)) (wv) aL))
    have fp:ib (Lp.length:Int) ((Lp++x::rest).map encS).length =true:=qw (Jb);have yt:((Lp++x::rest).map encS).set ((Lp.length:Int).toNat) (setAt (gA ((Lp++x::rest).map encS) ((Lp.length:Int).toNat)) 0 (encS (bX x n b).1))=((Lp++[(bX x n b).1])++rest).map encS:=by
     rw [rh,N4 (by rw [ID,ID]),BV]
    have i2:=fb (bX x n b).2 lo.1 (by omega) (Lp++[(bX x n b).1]) (by simp);rw [<-yt,iJ]at i2;rw [show aS b= J (dv (encS b))by rw [gb],show aS x= J (dv (gA ((Lp++x::rest).map encS) ((Lp.length:Int).toNat)))by rw [gs]]at e;refine bF adU (aj j (aX (aH ?_ (aH fp (aj e (aH fp (aH (toN_lt fp) ?_)))))))
    ·show decide ((0+((Lp++x::rest).map encS).length)*272<=140737488355328)=true;exact PZ
    ·rw [ix (n:=Lp.length+1) (by omega) (by omega)];have g1:dv (gC [aS (bX x n b).1,iI (bX x n b).2] 0)=encS (bX x n b).1 :=fE _;show bP Ey [iI (bX x n b).2,iI ((Lp.length+1:Nat):Int),fS s (((Lp++x::rest).map encS).set ((Lp.length:Int).toNat) (setAt (gA ((Lp++x::rest).map encS) ((Lp.length:Int).toNat)) 0 (dv (gC [aS (bX x n b).1,iI (bX x n b).2] 0)))) D H A,J (dv (encS b))] _;rw [g1,gb];exact i2
 have:=k n h0 h1 [] rfl;rw [gD]at this;refine bU ayN ?_;rw [gb];refine aj this.diag (af ?_);show(0,[iI _,fS s (([]++(gQ s.L n b).1).map encS) D H A,J (dv (encS b))])=_;rw [gb];rfl
end
end Go.Proofs.YtomkobcipaligaaGreatDoor
namespace Go.az
def I5{p:Prop}(h:p:=by simpa using hz):p:=h
end Go.az
namespace Go.Proofs.YtomkobcipaligaaGreatDoor
open Go Go.az
section
variable{n:Int}{A D H L:aZ}
theorem XD(x:CH)(n:Int)(b:CS):sB x n b=(.mk x.eQ (bX x.body n b).1,(bX x.body n b).2):=by cases x;simp only [sB];rfl
theorem agF(x:CD)(n:Int)(b:CS):lO x n b=if(bX x.d n b).2 <0 then(.mk (bX x.d n b).1 x.u,(bX x.d n b).2)else(.mk (bX x.d n b).1 (bX x.u (bX x.d n b).2 b).1,(bX x.u (bX x.d n b).2 b).2):=by cases x;simp only [lO];rfl
theorem agG(x:CA)(n:Int)(b:CS):mK x n b=if(bX x.body n b).2 <0 then(.mk x.kind x.guard x.entry x.E (bX x.body n b).1 x.after,(bX x.body n b).2)else(.mk x.kind x.guard x.entry x.E (bX x.body n b).1 (bX x.after (bX x.body n b).2 b).1,(bX x.after (bX x.body n b).2 b).2):=by cases x;simp only [mK];rfl
section
variable {s:CS} (bB:s.Ok) {b:CS}
include bB in
theorem aLV(ih:∀y∈s.H,Cp y.body)(h0:n= -1∨0<=n)(h1:n<=nB):
 bM Nx [iI n,fS s L D (s.H.map cA) A,aS b] (0,[iI (jw s.H n b).2,fS s L D ((jw s.H n b).1.map cA) A,aS b]):=by
 have hL:s.H.length<=mx:=by cases bB with|mk _ hf hL hD hH hA h1 h2 hk=>exact hH
 have gb:dv (encS b)=encS b:=fE b;have fin:∀{X:aZ} {i n:Int},(n<0∨ln X<=i)->bP Ew [iI n,iI i,fS s L D X A,aS b] (0,[iI n,fS s L D X A,aS b]):=λ{X i n} h=>by
  have j:bM Ni [iI n,iI i,fS s L D X A] (1,[fS s L D X A]):=by
   refine bU adz (av (c:=decide (i<ln X)) (λa=>aC (c:=decide (0<=n)) ?_ aL) λ_=>aL);simp at a⊢;omega
  refine bF adT (aj j (bj ?_));rw [gb];exact aL
 have k:=fD (m:=s.H.length) (P:=λi=>∀n:Int,(n= -1∨0<=n)->n<=nB->∀Lp:List CH,Lp.length=i->bP Ew [iI n,iI (i:Int),fS s L D ((Lp++s.H.drop i).map cA) A,aS b] (0,[iI (jw (s.H.drop i) n b).2,fS s L D ((Lp++(jw (s.H.drop i) n b).1).map cA) A,aS b]))
  (λn _ _ Lp hp=>by
    rw [gp];simp only [jw];exact fin (.inr (Ji)))
  λi hi fb n h0 h1 Lp hp=>by
   rw [gF hi];simp only [jw]
   by_cases hn:n<0
   ·exact Jk
   ·rw [if_neg hn];have hm:=dO hi;have lo:=(ptH s.H[i] n b (by omega)).lo (by omega);have e:=ih _ hm n (by omega) h1 b;subst hp;have lo':=lo;generalize hx:s.H[Lp.length]'hi=x at*;generalize hr:s.H.drop (Lp.length+1)=rest at*;have hlen:Lp.length+(rest.length+1)<=mx:=by
     have:s.H.length=Lp.length+(rest.length+1):=Jj;omega
    have gs:cO dD 1 (gA ((Lp++x::rest).map cA) ((Lp.length:Int).toNat))=encS x.body:=by rw [rh,QM]
    have nN:((Lp++x::rest).map cA).length =Lp.length+(rest.length+1):=by simp
    have j:bM Ni [iI n,iI (Lp.length:Int),fS s L D ((Lp++x::rest).map cA) A] (0,[fS s L D ((Lp++x::rest).map cA) A]):=by
     refine bU adz (bu (c:=decide ((Lp.length:Int)<ln ((Lp++x::rest).map cA))) (sq) (bu (c:=decide (0<=n)) (wv) aL))
    have fp:ib (Lp.length:Int) ((Lp++x::rest).map cA).length =true:=qw (Jb);have yt:((Lp++x::rest).map cA).set ((Lp.length:Int).toNat) (setAt (gA ((Lp++x::rest).map cA) ((Lp.length:Int).toNat)) 1 (encS (bX x.body n b).1))=((Lp++[(sB x n b).1])++rest).map cA:=by
     rw [rh,aMp,BV,XD]
    have i2:=fb (sB x n b).2 lo.1 (by omega) (Lp++[(sB x n b).1]) (by simp);rw [<-yt,iJ]at i2;rw [show aS b= J (dv (encS b))by rw [gb],show aS x.body= J (cO dD 1 (gA ((Lp++x::rest).map cA) ((Lp.length:Int).toNat)))by rw [gs]]at e;refine bF adT (aj j (aX (aH ?_ (aH fp (aj e (aH fp (aH (toN_lt fp) ?_)))))))
    ·show decide ((0+((Lp++x::rest).map cA).length)*296<=140737488355328)=true;exact PZ
    ·rw [ix (n:=Lp.length+1) (by omega) (by omega)];have g1:dv (gC [aS (bX x.body n b).1,iI (bX x.body n b).2] 0)=encS (bX x.body n b).1 :=fE _;show bP Ew [iI (bX x.body n b).2,iI ((Lp.length+1:Nat):Int),fS s L D (((Lp++x::rest).map cA).set ((Lp.length:Int).toNat) (setAt (gA ((Lp++x::rest).map cA) ((Lp.length:Int).toNat)) 1 (dv (gC [aS (bX x.body n b).1,iI (bX x.body n b).2] 0)))) A,J (dv (encS b))] _;rw [g1,gb];rw [show(bX x.body n b).2 =(sB x n b).2 by rw [XD]];exact i2
 have:=k n h0 h1 [] rfl;rw [gD]at this;refine bU ax9 ?_;rw [gb];refine aj this.diag (af ?_);show(0,[iI _,fS s L D (([]++(jw s.H n b).1).map cA) A,J (dv (encS b))])=_;rw [gb];rfl
include bB in
theorem aLX(ih:∀y∈s.A,Cp y.body∧Cp y.after)(h0:n= -1∨0<=n)(h1:n<=nB):
 bP xv [iI n,iI 0,fS s L D H (s.A.map cw),aS b] (0,[iI (mj s.A n b).2,fS s L D H ((mj s.A n b).1.map cw),aS b]):=by
 have hL:s.A.length<=mx:=by cases bB with|mk _ hf hL hD hH hA h1 h2 hk=>exact hA
 have gb:dv (encS b)=encS b:=fE b;have fin:∀{X:aZ} {i n:Int},(n<0∨ln X<=i)->bP xv [iI n,iI i,fS s L D H X,aS b] (0,[iI n,fS s L D H X,aS b]):=λ{X i n} h=>by
  have j:bM Nh [iI n,iI i,fS s L D H X] (1,[fS s L D H X]):=by
   refine bU ady (av (c:=decide (i<ln X)) (λa=>aC (c:=decide (0<=n)) ?_ aL) λ_=>aL);simp at a⊢;omega
  refine bF adt (aj j (bj ?_));rw [gb];exact aL
 have k:=fD (m:=s.A.length) (P:=λi=>∀n:Int,(n= -1∨0<=n)->n<=nB->∀Lp:List CA,Lp.length=i->bP xv [iI n,iI (i:Int),fS s L D H ((Lp++s.A.drop i).map cw),aS b] (0,[iI (mj (s.A.drop i) n b).2,fS s L D H ((Lp++(mj (s.A.drop i) n b).1).map cw),aS b]))
  (λn _ _ Lp hp=>by
    rw [gp];simp only [mj];exact fin (.inr (Ji)))
  λi hi fb n h0 h1 Lp hp=>by
   rw [gF hi];simp only [mj]
   by_cases hn:n<0
   ·exact Jk
   ·rw [if_neg hn];have hm:=dO hi;have lo:=(ptA s.A[i] n b (by omega)).lo (by omega);have lo1:=(yM s.A[i].body n b (by omega)).lo (by omega);have e:=(ih _ hm).1 n (by omega) h1 b;have e2:=(ih _ hm).2;subst hp;generalize hx:s.A[Lp.length]'hi=x at*;generalize hr:s.A.drop (Lp.length+1)=rest at*;have hlen:Lp.length+(rest.length+1)<=mx:=by
     have:s.A.length=Lp.length+(rest.length+1):=Jj;omega
    have gs:cO dD 12 (gA ((Lp++x::rest).map cw) ((Lp.length:Int).toNat))=encS x.body:=by rw [rh,F8]
    have gu:cO dD 33 (gA ((Lp++x::rest).map cw) ((Lp.length:Int).toNat))=encS x.after:=by rw [rh,F9]
    have nN:((Lp++x::rest).map cw).length =Lp.length+(rest.length+1):=by simp
    have j:bM Nh [iI n,iI (Lp.length:Int),fS s L D H ((Lp++x::rest).map cw)] (0,[fS s L D H ((Lp++x::rest).map cw)]):=by
     refine bU ady (bu (c:=decide ((Lp.length:Int)<ln ((Lp++x::rest).map cw))) (sq) (bu (c:=decide (0<=n)) (wv) aL))
    have fp:ib (Lp.length:Int) ((Lp++x::rest).map cw).length =true:=qw (Jb);have ei:decide ((0+((Lp++x::rest).map cw).length)*664<=140737488355328)=true:=PZ;rw [show aS b= J (dv (encS b))by rw [gb],show aS x.body= J (cO dD 12 (gA ((Lp++x::rest).map cw) ((Lp.length:Int).toNat)))by rw [gs]]at e;have C:∀r:UO,_->bP xv [iI n,iI (Lp.length:Int),fS s L D H ((Lp++x::rest).map cw),aS b] r:=λr h=>by
     refine bF adt (aj j (aX (aH ei (aH fp (aj e (aH fp (aH (toN_lt fp) ?_)))))));exact h
    have vN:bx ((Lp.length:Int)+1)=((Lp.length+1:Nat):Int):=ix (n:=Lp.length+1) (by omega) (by omega);have gx:dv (encS (bX x.body n b).1)=encS (bX x.body n b).1 :=fE _;have Qt:((Lp++x::rest).map cw).set ((Lp.length:Int).toNat) (setAt (gA ((Lp++x::rest).map cw) ((Lp.length:Int).toNat)) 12 (dv (encS (bX x.body n b).1)))=((Lp++[(.mk x.kind x.guard x.entry x.E (bX x.body n b).1 x.after:CA)])++rest).map cw:=by
     rw [gx,rh,aMt,BV]
    rw [agG]at lo⊢
    by_cases hz:(bX x.body n b).2 <0
    ·rw [if_pos hz]at lo⊢;have i2:=fb (bX x.body n b).2 lo1.1 (by omega) (Lp++[(.mk x.kind x.guard x.entry x.E (bX x.body n b).1 x.after:CA)]) (by simp);rw [<-Qt,iJ,<-vN]at i2;refine C _ (aC (c:=decide (0<=(bX x.body n b).2)) (I5) ?_);rw [gb];exact i2
    ·rw [if_neg hz]at lo⊢;have gy:dv (encS (bX x.after (bX x.body n b).2 b).1)=encS (bX x.after (bX x.body n b).2 b).1 :=fE _;have Zi:(((Lp++x::rest).map cw).set ((Lp.length:Int).toNat) (setAt (gA ((Lp++x::rest).map cw) ((Lp.length:Int).toNat)) 12 (dv (encS (bX x.body n b).1)))).set ((Lp.length:Int).toNat) (setAt (gA (((Lp++x::rest).map cw).set ((Lp.length:Int).toNat) (setAt (gA ((Lp++x::rest).map cw) ((Lp.length:Int).toNat)) 12 (dv (encS (bX x.body n b).1)))) ((Lp.length:Int).toNat)) 33 (dv (encS (bX x.after (bX x.body n b).2 b).1)))=((Lp++[(.mk x.kind x.guard x.entry x.E (bX x.body n b).1 (bX x.after (bX x.body n b).2 b).1 :CA)])++rest).map cw:=by
      rw [Qt,gy,iJ,ki,mb,rh,aMs,BV];rfl
     have i2:=fb (bX x.after (bX x.body n b).2 b).2 lo.1 (by omega) (Lp++[(.mk x.kind x.guard x.entry x.E (bX x.body n b).1 (bX x.after (bX x.body n b).2 b).1 :CA)]) (by simp);rw [<-Zi,iJ,<-vN]at i2;have e3:=e2 (bX x.body n b).2 (by omega) (by omega) b;rw [show aS b= J (dv (encS b))by rw [gb],show aS x.after= J (cO dD 33 (gA ((Lp++x::rest).map cw) ((Lp.length:Int).toNat)))by rw [gu]]at e3;refine C _ (bu (c:=decide (0<=(bX x.body n b).2)) (I5) (aH fp (aj e3 (aH (by rw [zx];exact fp) (aH (by rw [zx];exact toN_lt fp) ?_)))));rw [gb];exact i2
 have:=k n h0 h1 [] rfl;rw [gD]at this;exact this
include bB in
theorem aLW(ih:∀y∈s.D,Cp y.d∧Cp y.u)(h0:n= -1∨0<=n)(h1:n<=nB):
 bM We [iI n,fS s L (s.D.map cq) H A,aS b] (0,[iI (fC s.D n b).2,fS s L ((fC s.D n b).1.map cq) H A,aS b]):=by
 have hL:s.D.length<=mx:=by cases bB with|mk _ hf hL hD hH hA h1 h2 hk=>exact hD
 have gb:dv (encS b)=encS b:=fE b;have fin:∀{X:aZ} {i n:Int},(n<0∨ln X<=i)->bP Bz [iI n,iI i,fS s L X H A,aS b] (0,[iI n,fS s L X H A,aS b]):=λ{X i n} h=>by
  have j:bM Nw [iI n,iI i,fS s L X H A] (1,[fS s L X H A]):=by
   refine bU adY (av (c:=decide (i<ln X)) (λa=>aC (c:=decide (0<=n)) ?_ aL) λ_=>aL);simp at a⊢;omega
  refine bF adV (aj j (bj ?_));rw [gb];exact aL
 have k:=fD (m:=s.D.length) (P:=λi=>∀n:Int,(n= -1∨0<=n)->n<=nB->∀Lp:List CD,Lp.length=i->bP Bz [iI n,iI (i:Int),fS s L ((Lp++s.D.drop i).map cq) H A,aS b] (0,[iI (fC (s.D.drop i) n b).2,fS s L ((Lp++(fC (s.D.drop i) n b).1).map cq) H A,aS b]))
  (λn _ _ Lp hp=>by
    rw [gp];simp only [fC];exact fin (.inr (Ji)))
  λi hi fb n h0 h1 Lp hp=>by
   rw [gF hi];simp only [fC]
   by_cases hn:n<0
   ·exact Jk
   ·rw [if_neg hn];have hm:=dO hi;have lo:=(ptD s.D[i] n b (by omega)).lo (by omega);have lo1:=(yM s.D[i].d n b (by omega)).lo (by omega);have e:=(ih _ hm).1 n (by omega) h1 b;have e2:=(ih _ hm).2;subst hp;generalize hx:s.D[Lp.length]'hi=x at*;generalize hr:s.D.drop (Lp.length+1)=rest at*;have hlen:Lp.length+(rest.length+1)<=mx:=by
     have:s.D.length=Lp.length+(rest.length+1):=Jj;omega
    have gs:dv (gA ((Lp++x::rest).map cq) ((Lp.length:Int).toNat))=encS x.d:=by rw [rh,alu]
    have gu:cO dD 21 (gA ((Lp++x::rest).map cq) ((Lp.length:Int).toNat))=encS x.u:=by rw [rh,als]
    have nN:((Lp++x::rest).map cq).length =Lp.length+(rest.length+1):=by simp
    have j:bM Nw [iI n,iI (Lp.length:Int),fS s L ((Lp++x::rest).map cq) H A] (0,[fS s L ((Lp++x::rest).map cq) H A]):=by
     refine bU adY (bu (c:=decide ((Lp.length:Int)<ln ((Lp++x::rest).map cq))) (sq) (bu (c:=decide (0<=n)) (wv) aL))
    have fp:ib (Lp.length:Int) ((Lp++x::rest).map cq).length =true:=qw (Jb);have ei:decide ((0+((Lp++x::rest).map cq).length)*544<=140737488355328)=true:=PZ;rw [show aS b= J (dv (encS b))by rw [gb],show aS x.d= J (dv (gA ((Lp++x::rest).map cq) ((Lp.length:Int).toNat)))by rw [gs]]at e;have C:∀r:UO,_->bP Bz [iI n,iI (Lp.length:Int),fS s L ((Lp++x::rest).map cq) H A,aS b] r:=λr h=>by
     refine bF adV (aj j (aX (aH fp (aj e (aH fp ?_)))));exact h
    have vN:bx ((Lp.length:Int)+1)=((Lp.length+1:Nat):Int):=ix (n:=Lp.length+1) (by omega) (by omega);have gx:dv (encS (bX x.d n b).1)=encS (bX x.d n b).1 :=fE _;have Qt:((Lp++x::rest).map cq).set ((Lp.length:Int).toNat) (setAt (gA ((Lp++x::rest).map cq) ((Lp.length:Int).toNat)) 0 (sT (Bk (encS (bX x.d n b).1)) [(21,bE (gI (gA ((Lp++x::rest).map cq) ((Lp.length:Int).toNat)) 21)),(22,iI (gI (gA ((Lp++x::rest).map cq) ((Lp.length:Int).toNat)) 22)),(23,iI (gI (gA ((Lp++x::rest).map cq) ((Lp.length:Int).toNat)) 23)),(24,iI (gI (gA ((Lp++x::rest).map cq) ((Lp.length:Int).toNat)) 24)),(25,iI (gI (gA ((Lp++x::rest).map cq) ((Lp.length:Int).toNat)) 25)),(26,iI (gI (gA ((Lp++x::rest).map cq) ((Lp.length:Int).toNat)) 26)),(27,ak (gB (gA ((Lp++x::rest).map cq) ((Lp.length:Int).toNat)) 27)),(28,ak (gB (gA ((Lp++x::rest).map cq) ((Lp.length:Int).toNat)) 28)),(29,ak (gB (gA ((Lp++x::rest).map cq) ((Lp.length:Int).toNat)) 29)),(30,ak (gB (gA ((Lp++x::rest).map cq) ((Lp.length:Int).toNat)) 30)),(31,ak (gB (gA ((Lp++x::rest).map cq) ((Lp.length:Int).toNat)) 31)),(32,bE (gI (gA ((Lp++x::rest).map cq) ((Lp.length:Int).toNat)) 32)),(33,aT (gR (gA ((Lp++x::rest).map cq) ((Lp.length:Int).toNat)) 33)),(34,aT (gR (gA ((Lp++x::rest).map cq) ((Lp.length:Int).toNat)) 34)),(35,bH (gR (gA ((Lp++x::rest).map cq) ((Lp.length:Int).toNat)) 35)),(36,bH (gR (gA ((Lp++x::rest).map cq) ((Lp.length:Int).toNat)) 36)),(37,aa (gR (gA ((Lp++x::rest).map cq) ((Lp.length:Int).toNat)) 37)),(38,bD (gR (gA ((Lp++x::rest).map cq) ((Lp.length:Int).toNat)) 38)),(39,c5 (gR (gA ((Lp++x::rest).map cq) ((Lp.length:Int).toNat)) 39)),(40,cZ (gR (gA ((Lp++x::rest).map cq) ((Lp.length:Int).toNat)) 40)),(41,cQ (gR (gA ((Lp++x::rest).map cq) ((Lp.length:Int).toNat)) 41))]))=((Lp++[(.mk (bX x.d n b).1 x.u:CD)])++rest).map cq:=by
     rw [rh,aMq,N4 (by rw [ON,ON]),BV]
    rw [agF]at lo⊢
    by_cases hz:(bX x.d n b).2 <0
    ·rw [if_pos hz]at lo⊢;have i2:=fb (bX x.d n b).2 lo1.1 (by omega) (Lp++[(.mk (bX x.d n b).1 x.u:CD)]) (by simp);rw [<-Qt,iJ,<-vN]at i2;refine C _ (aC (c:=decide (0<=(bX x.d n b).2)) (I5) (aH ei (aH fp (aH (toN_lt fp) ?_))));rw [gb];exact i2
    ·rw [if_neg hz]at lo⊢;have gy:dv (encS (bX x.u (bX x.d n b).2 b).1)=encS (bX x.u (bX x.d n b).2 b).1 :=fE _;have Zi:((Lp++x::rest).map cq).set ((Lp.length:Int).toNat) (setAt (gA ((Lp++x::rest).map cq) ((Lp.length:Int).toNat)) 0 (sT (Bk (encS (bX x.d n b).1)) [(21,bE (gI (encS (bX x.u (bX x.d n b).2 b).1) 0)),(22,iI (gI (encS (bX x.u (bX x.d n b).2 b).1) 1)),(23,iI (gI (encS (bX x.u (bX x.d n b).2 b).1) 2)),(24,iI (gI (encS (bX x.u (bX x.d n b).2 b).1) 3)),(25,iI (gI (encS (bX x.u (bX x.d n b).2 b).1) 4)),(26,iI (gI (encS (bX x.u (bX x.d n b).2 b).1) 5)),(27,ak (gB (encS (bX x.u (bX x.d n b).2 b).1) 6)),(28,ak (gB (encS (bX x.u (bX x.d n b).2 b).1) 7)),(29,ak (gB (encS (bX x.u (bX x.d n b).2 b).1) 8)),(30,ak (gB (encS (bX x.u (bX x.d n b).2 b).1) 9)),(31,ak (gB (encS (bX x.u (bX x.d n b).2 b).1) 10)),(32,bE (gI (encS (bX x.u (bX x.d n b).2 b).1) 11)),(33,aT (gR (encS (bX x.u (bX x.d n b).2 b).1) 12)),(34,aT (gR (encS (bX x.u (bX x.d n b).2 b).1) 13)),(35,bH (gR (encS (bX x.u (bX x.d n b).2 b).1) 14)),(36,bH (gR (encS (bX x.u (bX x.d n b).2 b).1) 15)),(37,aa (gR (encS (bX x.u (bX x.d n b).2 b).1) 16)),(38,bD (gR (encS (bX x.u (bX x.d n b).2 b).1) 17)),(39,c5 (gR (encS (bX x.u (bX x.d n b).2 b).1) 18)),(40,cZ (gR (encS (bX x.u (bX x.d n b).2 b).1) 19)),(41,cQ (gR (encS (bX x.u (bX x.d n b).2 b).1) 20))]))=((Lp++[(.mk (bX x.d n b).1 (bX x.u (bX x.d n b).2 b).1 :CD)])++rest).map cq:=by
      rw [rh,aMr,N4 (by rw [ON,ON]),BV]
     have i2:=fb (bX x.u (bX x.d n b).2 b).2 lo.1 (by omega) (Lp++[(.mk (bX x.d n b).1 (bX x.u (bX x.d n b).2 b).1 :CD)]) (by simp);rw [<-Zi,iJ,<-vN]at i2;have e3:=e2 (bX x.d n b).2 (by omega) (by omega) b;rw [show aS b= J (dv (encS b))by rw [gb],show aS x.u= J (cO dD 21 (gA ((Lp++x::rest).map cq) ((Lp.length:Int).toNat)))by rw [gu]]at e3;refine C _ (bu (c:=decide (0<=(bX x.d n b).2)) (I5) (aj e3 (aH ei (aH fp (aH (toN_lt fp) ?_)))));rw [gb];exact i2
 have:=k n h0 h1 [] rfl;rw [gD]at this;refine bU ayO ?_;rw [gb];refine aj this.diag (af ?_);show(0,[iI _,fS s L (([]++(fC s.D n b).1).map cq) H A,J (dv (encS b))])=_;rw [gb];rfl
end
end
theorem aLS:∀s:CS,s.Ok->Cp s:=by
 refine CS.ind λs ih bB=> ?_;have kP:∀y∈s.kids,y.Ok:=JC;intro n h0 h1 b;have gb:dv (encS b)=encS b:=fE b
 by_cases hn:n=0
 ·have hp:bX s n b=(b,-1):=by cases s;simp only [bX];rw [if_pos hn]
  refine bz afw (bu (c:=n==0) (wv) (af ?_));rw [gb,hp]
 ·have hw:bx (n- 1)=n- 1:=by simp only [nB]at h1;rw [jv (by omega) (by omega)]
  have l1:=(lpD s.D (n- 1) b (by omega)).lo (by omega);have l2:=(lpS s.L _ b l1.1).lo l1.1;have l3:=(lpH s.H _ b l2.1).lo l2.1;have hp:bX s n b=(.mk s.f (gQ s.L (fC s.D (n- 1) b).2 b).1 (fC s.D (n- 1) b).1 (jw s.H (gQ s.L (fC s.D (n- 1) b).2 b).2 b).1 (mj s.A (jw s.H (gQ s.L (fC s.D (n- 1) b).2 b).2 b).2 b).1,(mj s.A (jw s.H (gQ s.L (fC s.D (n- 1) b).2 b).2 b).2 b).2):=by
   cases s;simp only [bX];rw [if_neg hn];rfl
  have e1:=aLW bB (b:=b) (λd hd=>⟨ih _ (ry hd).1 (kP _ (ry hd).1),ih _ (ry hd).2 (kP _ (ry hd).2)⟩) (L:=s.L.map encS) (H:=s.H.map cA) (A:=s.A.map cw) (n:=n- 1) (by omega) (by omega);have e2:=ptL bB (b:=b) (λy hy=>ih _ (CO hy) (kP _ (CO hy))) (D:=(fC s.D (n- 1) b).1.map cq) (H:=s.H.map cA) (A:=s.A.map cw) l1.1 (by omega);have e3:=aLV bB (b:=b) (λy hy=>ih _ (CP hy) (kP _ (CP hy))) (L:=(gQ s.L (fC s.D (n- 1) b).2 b).1.map encS) (D:=(fC s.D (n- 1) b).1.map cq) (A:=s.A.map cw) l2.1 (by omega);have e4:=aLX bB (b:=b) (λy hy=>⟨ih _ (rA hy).1 (kP _ (rA hy).1),ih _ (rA hy).2 (kP _ (rA hy).2)⟩) (L:=(gQ s.L (fC s.D (n- 1) b).2 b).1.map encS) (D:=(fC s.D (n- 1) b).1.map cq) (H:=(jw s.H (gQ s.L (fC s.D (n- 1) b).2 b).2 b).1.map cA) l3.1 (by omega);rw [ald s];refine bz afw (aC (c:=n==0) (wv) ?_);rw [hw,gb];refine aj e1 ?_;show E (λN _=>bO (NR (FU CX EE N) N [iI (fC s.D (n- 1) b).2,fS s (s.L.map encS) ((fC s.D (n- 1) b).1.map cq) (s.H.map cA) (s.A.map cw),J (dv (encS b))]) _) _;rw [gb];refine aj e2 ?_;show E (λN _=>bO (Nx (FU CX EE N) N [iI (gQ s.L (fC s.D (n- 1) b).2 b).2,fS s ((gQ s.L (fC s.D (n- 1) b).2 b).1.map encS) ((fC s.D (n- 1) b).1.map cq) (s.H.map cA) (s.A.map cw),J (dv (encS b))]) _) _;rw [gb];refine aj e3 ?_;show E (λN _=>bO (xv (FU CX EE N) N N [iI (jw s.H (gQ s.L (fC s.D (n- 1) b).2 b).2 b).2,iI 0,fS s ((gQ s.L (fC s.D (n- 1) b).2 b).1.map encS) ((fC s.D (n- 1) b).1.map cq) ((jw s.H (gQ s.L (fC s.D (n- 1) b).2 b).2 b).1.map cA) (s.A.map cw),J (dv (encS b))]) _) _;rw [gb];refine aj e4.diag (af ?_);have hq:aS (bX s n b).1 =fS s ((gQ s.L (fC s.D (n- 1) b).2 b).1.map encS) ((fC s.D (n- 1) b).1.map cq) ((jw s.H (gQ s.L (fC s.D (n- 1) b).2 b).2 b).1.map cA) ((mj s.A (jw s.H (gQ s.L (fC s.D (n- 1) b).2 b).2 b).2 b).1.map cw):=by rw [hp];exact ald _
  have hr:(bX s n b).2 =(mj s.A (jw s.H (gQ s.L (fC s.D (n- 1) b).2 b).2 b).2 b).2 :=by rw [hp]
  rw [hq,hr];rfl
def qA:List TK->Int->CS->List TK×Int
 | [],n,_=>([],n)
 |x::xs,n,b=>if n<0 then(x::xs,n)else({x with body:=(bX x.body n b).1}::(qA xs (bX x.body n b).2 b).1,(qA xs (bX x.body n b).2 b).2)
theorem lpT:∀(l:List TK) (n:Int) (b:CS),(n= -1∨0<=n)->Pl (eW l) (eW (qA l n b).1) n (qA l n b).2 b
 | [],n,b,_=>Pl.nil
 |s::ss,n,b,hn=>by
  simp only [qA]
  by_cases h0:n<0
  ·exact JD
  ·rw [if_neg h0];have i1:=yM s.body n b (by omega);have i2:=lpT ss _ b (i1.lo (by omega)).1;exact Jn
abbrev zj(p:PG)(k:Nat):AV:= J [bJ (cf p.bw),iI p.eQ,.aA k,nT (p.dp.map fr)]
theorem aMo(x:TK)(y:CS):setAt (cE x) 2 (encS y)=cE {x with body:=y}:=by
 cases x with
 |mk a b c d=>cases c;cases y;kernel_rfl
section
variable {p:PG} (hp:p.Ok)
include hp in
theorem aj9{n:Int}(h0:n= -1∨0<=n)(h1:n<=nB)(b:CS):Ev M4 [aG p,iI n,aS b] (0,[zj p 0,fq ((qA p.tasks n b).1.map cE)]):=by
 have gb:dv (encS b)=encS b:=fE b;have fin:∀{X:aZ} {i n:Int},(n<0∨ln X<=i)->bP HG [iI n,iI i,zj p 2,aS b,fq X] (0,[zj p 2,aS b,fq X]):=λ{X i n} h=>by
  have j:bM Mq [iI n,iI i,zj p 1,fq X] (1,[zj p 1,fq X]):=by
   refine bU acj (av (c:=decide (i<ln X)) (λa=>aC (c:=decide (0<=n)) ?_ aL) λ_=>aL);simp at a⊢;omega
  refine bF acv (aj j (bj ?_));rw [gb];exact aL
 have k:=fD (m:=p.tasks.length) (P:=λi=>∀n:Int,(n= -1∨0<=n)->n<=nB->∀Lp:List TK,Lp.length=i->bP HG [iI n,iI (i:Int),zj p 2,aS b,fq ((Lp++p.tasks.drop i).map cE)] (0,[zj p 2,aS b,fq ((Lp++(qA (p.tasks.drop i) n b).1).map cE)]))
  (λn _ _ Lp hp=>by
    rw [gp];simp only [qA];exact fin (.inr (Ji)))
  λi hi fb n h0 h1 Lp hl=>by
   have hk:=hp.task _ (dO hi);have hT:=hp.tasks;rw [gF hi];simp only [qA]
   by_cases hn:n<0
   ·exact Jk
   ·rw [if_neg hn];have lo:=(yM p.tasks[i].body n b (by omega)).lo (by omega);have e:=aLS _ hk.body n (by omega) h1 b;subst hl;generalize hx:p.tasks[Lp.length]'hi=x at*;generalize hr:p.tasks.drop (Lp.length+1)=rest at*;have hlen:Lp.length+(rest.length+1)<=mx:=by
     have:p.tasks.length=Lp.length+(rest.length+1):=Jj;omega
    have gs:cO dD 2 (gA ((Lp++x::rest).map cE) ((Lp.length:Int).toNat))=encS x.body:=by rw [rh,QL]
    have nN:((Lp++x::rest).map cE).length =Lp.length+(rest.length+1):=by simp
    have j:bM Mq [iI n,iI (Lp.length:Int),zj p 1,fq ((Lp++x::rest).map cE)] (0,[zj p 1,fq ((Lp++x::rest).map cE)]):=by
     refine bU acj (bu (c:=decide ((Lp.length:Int)<ln ((Lp++x::rest).map cE))) (sq) (bu (c:=decide (0<=n)) (wv) aL))
    have fp:ib (Lp.length:Int) ((Lp++x::rest).map cE).length =true:=qw (Jb);have yt:((Lp++x::rest).map cE).set ((Lp.length:Int).toNat) (setAt (gA ((Lp++x::rest).map cE) ((Lp.length:Int).toNat)) 2 (encS (bX x.body n b).1))=((Lp++[{x with body:=(bX x.body n b).1}])++rest).map cE:=by
     rw [rh,aMo,BV]
    have i2:=fb (bX x.body n b).2 lo.1 (by omega) (Lp++[{x with body:=(bX x.body n b).1}]) (by simp);rw [<-yt,iJ]at i2;rw [show aS b= J (dv (encS b))by rw [gb],show aS x.body= J (cO dD 2 (gA ((Lp++x::rest).map cE) ((Lp.length:Int).toNat)))by rw [gs]]at e;refine bF acv (aj j (aX (aH fp (aH (toN_lt fp) (aj e (aH fp (aH (toN_lt fp) ?_)))))));rw [ix (n:=Lp.length+1) (by omega) (by omega)];have g1:dv (gC [aS (bX x.body n b).1,iI (bX x.body n b).2] 0)=encS (bX x.body n b).1 :=fE _;rw [gb];erw [g1];exact i2
 have k0:=k n h0 h1 [] rfl;rw [gD]at k0;refine bz axp (aH ?_ ?_)
 ·show decide ((0+(p.tasks.map cE).length)*312<=140737488355328)=true;have:=hp.tasks;rw [eE];simp only [mx]at this;simp;omega
 ·rw [gb];exact aj k0.diag aL
end
end Go.Proofs.YtomkobcipaligaaGreatDoor
namespace Go.az
def Jh{p:Prop}(h:p:=by rw [if_pos h0];exact⟨rfl,h⟩):p:=h
def I7{p:Prop}(h:p:=by simp [fz,mx]):p:=h
def I4{p:Prop}(h:p:=by simp [i2.1]):p:=h
end Go.az
namespace Go.Proofs.YtomkobcipaligaaGreatDoor
open Go Go.az
section
variable{b s:CS}
structure DP(s:CS):Prop where
 f:s.f.Ok
 lL:s.L.length<=mx
 lD:s.D.length<=mx
 lH:s.H.length<=mx
 lA:s.A.length<=mx
 L:∀y∈s.L,y.Ok
 D:∀d∈s.D,d.d.Ok∧d.u.Ok
 H:∀x∈s.H,x.qn∧x.body.Ok
 A:∀x∈s.A,x.qn∧x.body.Ok∧x.after.Ok
theorem DP.to(h:DP s):s.Ok:=by
 refine .mk s h.f h.lL h.lD h.lH h.lA (λx hx=>(h.H x hx).1) (λx hx=>(h.A x hx).1) λy hy=> ?_;simp only [CS.kids,jO,E7,zD,gN,OU,or_false]at hy;rcases hy with⟨d,hd,rfl|rfl⟩|hy|⟨x,hx,rfl⟩|⟨x,hx,rfl|rfl⟩
 ·exact(h.D d hd).1
 ·exact(h.D d hd).2
 ·exact h.L y hy
 ·exact(h.H x hx).2
 ·exact(h.A x hx).2.1
 ·exact(h.A x hx).2.2
theorem DP.of(h:s.Ok):DP s:=by
 obtain⟨_,hf,hL,hD,hH,hA,h1,h2,hk⟩:=h;exact⟨hf,hL,hD,hH,hA,λy hy=>hk _ (CO hy),λd hd=>⟨hk _ (ry hd).1,hk _ (ry hd).2⟩,λx hx=>⟨h1 x hx,hk _ (CP hx)⟩,λx hx=>⟨h2 x hx,hk _ (rA hx).1,hk _ (rA hx).2⟩⟩
mutual
theorem CJ:∀(s:CS) (n:Int) (b:CS),s.Ok->b.Ok->(bX s n b).1.Ok
 | .mk f l d h a,n,b,hs,hb=>by
   have o:=DP.of hs;simp only [bX]
   by_cases h0:n=0
   ·rw [if_pos h0];exact hb
   ·rw [if_neg h0];have i1:=anc d (n- 1) b o.D hb;have i2:=ana l (fC d (n- 1) b).2 b o.L hb;have i3:=anb h (gQ l (fC d (n- 1) b).2 b).2 b o.H hb;have i4:=ane a (jw h (gQ l (fC d (n- 1) b).2 b).2 b).2 b o.A hb;exact DP.to ⟨o.f,by show(gQ l _ b).1.length <=mx;rw [i2.1];exact o.lL,by show(fC d _ b).1.length <=mx;rw [i1.1];exact o.lD,by show(jw h _ b).1.length <=mx;rw [i3.1];exact o.lH,by show(mj a _ b).1.length <=mx;rw [i4.1];exact o.lA,i2.2,i1.2,i3.2,i4.2⟩
theorem ana:∀(l:List CS) (n:Int) (b:CS),(∀y∈l,y.Ok)->b.Ok->(gQ l n b).1.length =l.length∧∀y∈(gQ l n b).1,y.Ok
 | [],n,b,h,hb=>by simp only [gQ];exact⟨trivial,h⟩
 |s::ss,n,b,h,hb=>by
  simp only [gQ]
  by_cases h0:n<0
  ·exact Jh
  ·rw [if_neg h0];have i1:=CJ s n b (h s (by simp)) hb;have i2:=ana ss (bX s n b).2 b (λy hy=>h y (zM)) hb;refine⟨I4,λy hy=> ?_⟩;rcases gN.1 hy with rfl|hy
   ·exact i1
   ·exact i2.2 y hy
theorem anc:∀(l:List CD) (n:Int) (b:CS),(∀y∈l,y.d.Ok∧y.u.Ok)->b.Ok->(fC l n b).1.length =l.length∧∀y∈(fC l n b).1,y.d.Ok∧y.u.Ok
 | [],n,b,h,hb=>by simp only [fC];exact⟨trivial,h⟩
 | .mk d u::ss,n,b,h,hb=>by
   simp only [fC]
   by_cases h0:n<0
   ·exact Jh
   ·rw [if_neg h0];have hh:=h (.mk d u) (by simp);have i1:=CJ d n b hh.1 hb;have i3:=CJ u (bX d n b).2 b hh.2 hb;have i2:=anc ss (lO (.mk d u) n b).2 b (λy hy=>h y (zM)) hb;refine⟨I4,λy hy=> ?_⟩;rcases gN.1 hy with rfl|hy
    ·rw [agF]
     by_cases hz:(bX (CD.mk d u).d n b).2 <0
     ·rw [if_pos hz];exact⟨i1,hh.2⟩
     ·rw [if_neg hz];exact⟨i1,i3⟩
    ·exact i2.2 y hy
theorem anb:∀(l:List CH) (n:Int) (b:CS),(∀y∈l,y.qn∧y.body.Ok)->b.Ok->(jw l n b).1.length =l.length∧∀y∈(jw l n b).1,y.qn∧y.body.Ok
 | [],n,b,h,hb=>by simp only [jw];exact⟨trivial,h⟩
 | .mk e x::ss,n,b,h,hb=>by
   simp only [jw]
   by_cases h0:n<0
   ·exact Jh
   ·rw [if_neg h0];have hh:=h (.mk e x) (by simp);have i1:=CJ x n b hh.2 hb;have i2:=anb ss (sB (.mk e x) n b).2 b (λy hy=>h y (zM)) hb;refine⟨I4,λy hy=> ?_⟩;rcases gN.1 hy with rfl|hy
    ·rw [XD];exact⟨⟨hh.1.eQ⟩,i1⟩
    ·exact i2.2 y hy
theorem ane:∀(l:List CA) (n:Int) (b:CS),(∀y∈l,y.qn∧y.body.Ok∧y.after.Ok)->b.Ok->(mj l n b).1.length =l.length∧∀y∈(mj l n b).1,y.qn∧y.body.Ok∧y.after.Ok
 | [],n,b,h,hb=>by simp only [mj];exact⟨trivial,h⟩
 | .mk k g m e d u::ss,n,b,h,hb=>by
   simp only [mj]
   by_cases h0:n<0
   ·exact Jh
   ·rw [if_neg h0];have hh:=h (.mk k g m e d u) (by simp);have i1:=CJ d n b hh.2.1 hb;have i3:=CJ u (bX d n b).2 b hh.2.2 hb;have i2:=ane ss (mK (.mk k g m e d u) n b).2 b (λy hy=>h y (zM)) hb;refine⟨I4,λy hy=> ?_⟩;rcases gN.1 hy with rfl|hy
    ·rw [agG]
     by_cases hz:(bX (CA.mk k g m e d u).body n b).2 <0
     ·rw [if_pos hz];exact⟨⟨hh.1.guard,hh.1.E⟩,i1,hh.2.2⟩
     ·rw [if_neg hz];exact⟨⟨hh.1.guard,hh.1.E⟩,i1,i3⟩
    ·exact i2.2 y hy
end
theorem am9:∀(l:List TK) (n:Int) (b:CS),(∀t∈l,t.Ok)->b.Ok->(qA l n b).1.length =l.length∧∀t∈(qA l n b).1,t.Ok
 | [],n,b,h,hb=>⟨rfl,h⟩
 |x::ss,n,b,h,hb=>by
  simp only [qA]
  by_cases h0:n<0
  ·exact Jh
  ·rw [if_neg h0];have hh:=h x (by simp);have i1:=CJ x.body n b hh.body hb;have i2:=am9 ss (bX x.body n b).2 b (λy hy=>h y (zM)) hb;refine⟨I4,λy hy=> ?_⟩;rcases gN.1 hy with rfl|hy
   ·exact⟨hh.len,hh.au,i1⟩
   ·exact i2.2 y hy
theorem aDm:∀s:CS,s.Ok->∀y∈fB s,y.Ok:=by
 refine CS.ind λs ih bB y hy=> ?_;have kP:∀y∈s.kids,y.Ok:=JC;rw [af3]at hy;rcases gN.1 hy with rfl|hy
 ·exact bB
 ·have:∀l:List CS,(∀z∈l,z∈s.kids)->y∈iu l->y.Ok:=by
   intro l
   induction l with
   |nil=>intro _ h;simp [iu]at h
   |cons z l il=>
    intro hl h;simp only [iu]at h;rcases jO.1 h with h|h
    ·exact ih z (hl z (by simp)) (kP _ (hl z (by simp))) y h
    ·exact il (λw hw=>hl w (by simp [hw])) h
  exact this s.kids (λ_ h=>h) hy
theorem af4:∀(l:List TK),(∀t∈l,t.Ok)->∀y∈eW l,y.Ok
 | [],_,y,hy=>by cases hy
 |x::xs,h,y,hy=>by
  simp only [eW]at hy;rcases jO.1 hy with hy|hy
  ·exact aDm _ (h x (by simp)).body y hy
  ·exact af4 xs (λt ht=>h t (by simp [ht])) y hy
def yj(c:CS):CS:= .mk (fz 3 xz) [c] [] [] []
def J6(c:CS):CS:= .mk (fz 7 {xz with N:=8000}) [c] [] [] []
theorem ak7(k:Int)(x:XF)(h:0<=x.mode):(fz k x).Ok :=⟨⟨I7,by simp [fz]⟩,⟨I7,by simp [fz]⟩,⟨I7,by simp [fz]⟩,⟨I7,by simp [fz]⟩,I7,h⟩
theorem ahj{f:dH}(hf:f.Ok){c:CS}(h:c.Ok):(CS.mk f [c] [] [] []).Ok :=
 DP.to ⟨hf,by simp [CS.L,mx],by simp [CS.D,mx],by simp [CS.H,mx],by simp [CS.A,mx],by simpa [CS.L]using h,by simp [CS.D],by simp [CS.H],by simp [CS.A]⟩
theorem aCe(c:CS):encS (yj c)=[bE 3,iI 0,iI 0,iI 0,iI 0,iI 0,aq,aq,aq,aq,aq,bE 0,aT [],aT [],bH [],bH [],aa [],bD [encS c],c5 [],cZ [],cQ []]:=xT
theorem aCw(c:CS):encS (J6 c)=[bE 7,iI 8000,iI 0,iI 0,iI 0,iI 0,aq,aq,aq,aq,aq,bE 0,aT [],aT [],bH [],bH [],aa [],bD [encS c],c5 [],cZ [],cQ []]:=xT
section
variable {p:PG} (hp:p.Ok) (hE:ml)
def J2(p:PG)(n:Int)(b:CS):PG:={p with tasks:=(qA p.tasks n b).1}
include hp in
theorem agC{n:Int}(hb:b.Ok):(J2 p n b).Ok :=by
 have:=am9 p.tasks n b hp.task hb;exact⟨hp.bw,hp.obj,by show(qA p.tasks n b).1.length <=mx;rw [this.1];exact hp.tasks,this.2,hp.dp,hp.gr⟩
theorem aCk(c:CS):(fB (yj c)).length =(fB c).length +1:=by simp [yj,fB,kI,iu,nZ,oB]
theorem aCi{n:Nat}(hn:n<(eW p.tasks).length)(hb:(fB b).length =(fB (eW p.tasks)[n]).length +1):(eW (J2 p (n:Int) b).tasks).length =(eW p.tasks).length +1:=by
 have h:=((lpT p.tasks (n:Int) b (.inr (by omega))).2 (by omega)).hit (by omega);have:=h.2 (eW p.tasks)[n] (by rw [mE];exact dz hn);show(eW (qA p.tasks n b).1).length =_;omega
abbrev aR(p:PG)(n:Int)(b:CS):AV:=aG (J2 p n b)
include hp hE in
theorem aDG(hn:(eW p.tasks).length <=10000000)(n:Int):Ev Bt [aG p,iI n] (0,[cu]):=by
 obtain⟨bg,g1⟩:=aDM hp;obtain⟨bm,m1,m2⟩:=aad hp hE;have j6:bM UI [iI n,aG p] (bif (bif bg then true else bif !bm then true else decide (n<0))then(1,[cu,aG p])else(0,[aG p])):=by
  refine bU atX (aj g1 (av (c:=bg) (λa=>af (rf)) λa=>aj m2 (av (c:= !bm) (λb=>af (nC)) λb=>av (c:=decide (n<0)) (λc=>af (wj)) λc=>af (wj))))
 have C:∀r:UO,_->Ev Bt [aG p,iI n] r:=λr h=>by
  refine bz awp (aj j6 ?_);exact h
 cases hz:(bif bg then true else bif !bm then true else decide (n<0))with
 |true=>rw [hz]at C;exact C _ (bj aL)
 |false=>
  rw [hz]at C;have hbm:bm=true:=by
   cases bg with
   |true=>cases hz
   |false=>cases bm with
    |true=>rfl
    |false=>cases hz
  have y9:0<=n:=by
   cases bg with
   |true=>cases hz
   |false=>
    rw [hbm]at hz;exact I5
  rw [hbm]at m1 m2;have al:=aNH hp (by simp only [oP];omega) m2;have KN:bM Uq [iI n,fh (eW p.tasks)] (bif (bif decide (ln ((eW p.tasks).map encS)<=n)then true else decide (1000<ln ((eW p.tasks).map encS)))then(1,[cu,fh (eW p.tasks)])else(0,[fh (eW p.tasks)])):=by
   refine bU asY (av (c:=decide (ln ((eW p.tasks).map encS)<=n)) (λa=>af (rf)) λa=>av (c:=decide (1000<ln ((eW p.tasks).map encS))) (λb=>af (nC)) λb=>af (nC))
  have C1:∀r:UO,_->Ev Bt [aG p,iI n] r:=λr h=>by
   refine C r (aX (aj al (aj KN ?_)));exact h
  cases hy:(bif decide (ln ((eW p.tasks).map encS)<=n)then true else decide (1000<ln ((eW p.tasks).map encS)))with
  |true=>rw [hy]at C1;exact C1 _ (bj aL)
  |false=>
   rw [hy]at C1;have cF:n.toNat<(eW p.tasks).length :=by
    cases h1:decide (ln ((eW p.tasks).map encS)<=n)with
    |true=>rw [h1]at hy;cases hy
    |false=>rw [dq]at h1;simp at h1;omega
   obtain⟨k,rfl⟩:∃k:Nat,n=(k:Int):=⟨n.toNat,by omega⟩;rw [mE]at cF;have fp:ib (k:Int) ((eW p.tasks).map encS).length =true:=qw (by simpa using cF);have gs:dv (gA ((eW p.tasks).map encS) ((k:Int).toNat))=encS (eW p.tasks)[k]:=by rw [fM cF,fE]
   have hc:=af4 p.tasks hp.task _ (dO cF);have hs:=Cf (eW p.tasks)[k];rw [<-gs]at hs;have C2:∀r:UO,_->Ev Bt [aG p,iI (k:Int)] r:=λr h=>by
    refine C1 r (aX (aH fp (aH (toN_lt fp) (aj hs ?_))));exact h
   cases oK:nL (eW p.tasks)[k]with
   |true=>rw [oK]at C2;exact C2 _ (aX aL)
   |false=>
    rw [oK]at C2;have nb:(k:Int)<=nB:=by simp only [nB];omega
    have hq1:=aj9 hp (.inr y9) nb (yj (eW p.tasks)[k]);have uo:=aj9 hp (.inr y9) nb (J6 (eW p.tasks)[k]);rw [show aS (yj (eW p.tasks)[k])=J _ from uJ J (aCe (eW p.tasks)[k]),<-gs]at hq1;rw [show aS (J6 (eW p.tasks)[k])=J _ from uJ J (aCw (eW p.tasks)[k]),<-gs]at uo;have okq:=agC hp (n:=(k:Int)) (ahj (ak7 3 xz (by simp [xz])) hc);have okm:=agC hp (n:=(k:Int)) (ahj (ak7 7 {xz with N:=8000} (by simp [xz])) hc);obtain⟨bq,q1,q2⟩:=aad okq hE;obtain⟨bmm,r1,r2⟩:=aad okm hE;have lq:=aCi cF (aCk (eW p.tasks)[k]);have C3:∀r:UO,_->Ev Bt [aG p,iI (k:Int)] r:=λr h=>by
     refine C2 r (bj (aH fp (aH (toN_lt fp) (aj hq1 (aH fp (aH (toN_lt fp) (aj uo (aj q1 ?_))))))));exact h
    cases bq with
    |false=>exact C3 _ (bj (aj q2 (aX (aj q1 (aX aL)))))
    |true=>
     have alq:=aNI okq (by show(eW (J2 p (k:Int) (yj (eW p.tasks)[k])).tasks).length <=oP;rw [lq];simp only [oP];omega) q1;have j40:bM L7 [aR p (k:Int) (yj (eW p.tasks)[k]),aR p (k:Int) (J6 (eW p.tasks)[k])] (0,[cu,aR p (k:Int) (yj (eW p.tasks)[k]),aR p (k:Int) (J6 (eW p.tasks)[k])]):=by
      refine bU arh (aj q1 (aX (aj r1 (aj r2 (bu (c:=bmm==bmm) (by cases bmm<;>rfl) aL)))))
     refine C3 _ (aX (aj alq (aC ?_ (aj q2 (bj (aj j40 aL))))));show(ln ((eW (J2 p (k:Int) (yj (eW p.tasks)[k])).tasks).map encS) != bx (ln ((eW p.tasks).map encS)+1))=false;rw [dq,dq,lq,jv (by omega) (by omega)];simp
end
end
end Go.Proofs.YtomkobcipaligaaGreatDoor
namespace Go.az
def wF{p:Prop}(h:p:=by exact⟨l,h1,by omega,h3⟩):p:=h
def ajl{p:Prop}(h:p:=by
 cases a<;>simp only [iA,lg]at h
 have e:=eq_of_beq h;subst e;exact⟨_,rfl⟩):p:=h
end Go.az
namespace Go.Proofs.YtomkobcipaligaaGreatDoor
open Go Go.az
section
variable{a x:AV}{v:Int}{t:Nat}{row:Row}{xs:aZ}
def wf_i64(h:(Lit.int .i64 v).wf =true): -9223372036854775808<=v∧v<=9223372036854775807:=by
 simp only [Lit.wf,IntKind.min,IntKind.max,IntKind.signed,IntKind.bits,bS,iY,ow]at h;omega
def wf_u8(h:(Lit.int .u8 v).wf =true):0<=v∧v<=255:=by
 simp only [Lit.wf,IntKind.min,IntKind.max,IntKind.signed,IntKind.bits,bS,iY,lg,ng]at h;omega
def e8{k:Kind}{ks:dZ}(h:dk (k::ks) row=true):∃a r,row=a::r∧iA k a=true∧dk ks r=true:=by
 match row,h with
 | [],h=>exact B4
 |a::r,h=>
  simp only [dk,bS]at h;exact⟨a,r,rfl,h.1,h.2⟩
def jH{k:IntKind}(h:iA (.int k) a=true):∃n,a= .int k n:=ajl
def Fg(h:iA .bool a=true):∃n,a= ak n:=by
 cases a<;>simp only [iA,lg]at h
 exact⟨_,rfl⟩
def mF{t:TypeId}(h:iA (.slice t) a=true):∃n,a= .ab t n:=ajl
def xy:∀{a b:dZ} {row:Row},dk (a++b) row=true->∃r s,row=r++s∧dk a r=true∧dk b s=true
 | [],_,row,h=>⟨[],row,rfl,rfl,h⟩
 |k::a,b,row,h=>by
  obtain⟨x,r,rfl,h1,h2⟩:=e8 h;obtain⟨r1,r2,rfl,h3,h4⟩:=xy h2;exact⟨x::r1,r2,rfl,by simp [dk,h1,h3],h4⟩
def rY(h:dk [] row=true):row=[]:=by cases row<;>simp_all [dk]
def lift{α:Type}{enc:α->Row}{P:α->Prop}:∀{xs:aZ},(∀r∈xs,∃a,r=enc a∧P a)->∃l:List α,xs=l.map enc∧l.length=xs.length∧∀a∈l,P a
 | [],_=>⟨[],rfl,rfl,λa h=>bh⟩
 |r::rs,h=>by
  obtain⟨a,rfl,h1⟩:=h r (by simp);obtain⟨l,rfl,h2,h3⟩:=lift (xs:=rs) λr hr=>h r (by simp [hr]);exact⟨a::l,rfl,by simp,λy hy=>by
   rcases gN.1 hy with rfl|hy
   ·exact h1
   ·exact h3 y hy⟩
structure Dc(t:Nat)(xs:aZ):Prop where
 i:t=tP->∃l:cT,xs=ints l∧l.length<=mx
 e:t=EB->∃l,xs=l.map aU∧Gw l
 p:t=EA->∃l,xs=l.map cX∧aaQ l
 s:t=Nz->∃l:List CS,xs=l.map encS∧l.length<=mx∧∀x∈l,x.Ok
 d:t=NA->∃l:List CD,xs=l.map cq∧l.length<=mx∧∀x∈l,x.d.Ok∧x.u.Ok
 h:t=MG->∃l:List CH,xs=l.map cA∧l.length<=mx∧∀x∈l,x.qn∧x.body.Ok
 a:t=NT->∃l:List CA,xs=l.map cw∧l.length<=mx∧∀x∈l,x.qn∧x.body.Ok∧x.after.Ok
 o:t=afc->∃l:List OB,xs=l.map fU∧l.length<=mx∧∀x∈l,x.Ok
 n:t=aeo->∃l:List EN,xs=l.map iM∧l.length<=mx∧∀x∈l,x.Ok
 k:t=aeO->∃l:List TK,xs=l.map cE∧l.length<=mx∧∀x∈l,x.Ok
 q:t=aeP->∃l:List PR,xs=l.map fr∧l.length<=mx∧∀x∈l,x.Ok
def Hi(row:Row):Prop:=∀y∈row,Wf CX.K y∧∀t xs,y= .ab t xs->Dc t xs
def Hi.l{r s:Row}(h:Hi (r++s)):Hi r:=λy hy=>h y (zM)
def Hi.r{r s:Row}(h:Hi (r++s)):Hi s:=λy hy=>h y (zM)
def Hi.at(h:Hi row)(hm:AV.ab t xs∈row):Dc t xs:=(h _ hm).2 _ _ rfl
abbrev np:dZ:=[.int .u8,.int .i64,.int .i64,.int .i64,.int .i64,.int .i64,.bool,.bool,.bool,.bool,.bool,.int .u8,.slice 54,.slice 54,.slice 118,.slice 118,.slice 3,.slice 41,.slice 110,.slice 112,.slice 115]
abbrev GP:dZ:=[.int .u8,.int .u8,.int .i64,.int .i64,.int .i64,.int .i64,.int .i64,.int .i64,.slice 54]
abbrev kdP:dZ:=[.int .u8,.int .i64,.int .i64,.int .i64,.slice 54]
abbrev KL:dZ:=[.int .i64,.int .i64,.int .i64,.bool,.slice 3]
abbrev kdN:dZ:=[.slice 3,.slice 3]
abbrev kdQ:dZ:=[.int .i64,.slice 3,.slice 54]
abbrev kdG:dZ:=[.slice 120,.int .i64,.slice 57,.slice 67]
def amW(h:dk GP row=true)(hi:Hi row):∃s:CE,row=aU s∧s.Ok:=by
 obtain⟨x0,r0,rfl,q0,g0⟩:=e8 h;obtain⟨x0,rfl⟩:=jH q0;obtain⟨x1,r1,rfl,q1,g1⟩:=e8 g0;obtain⟨x1,rfl⟩:=jH q1;obtain⟨x2,r2,rfl,q2,g2⟩:=e8 g1;obtain⟨x2,rfl⟩:=jH q2;obtain⟨x3,r3,rfl,q3,g3⟩:=e8 g2;obtain⟨x3,rfl⟩:=jH q3;obtain⟨x4,r4,rfl,q4,g4⟩:=e8 g3;obtain⟨x4,rfl⟩:=jH q4;obtain⟨x5,r5,rfl,q5,g5⟩:=e8 g4;obtain⟨x5,rfl⟩:=jH q5;obtain⟨x6,r6,rfl,q6,g6⟩:=e8 g5;obtain⟨x6,rfl⟩:=jH q6;obtain⟨x7,r7,rfl,q7,g7⟩:=e8 g6;obtain⟨x7,rfl⟩:=jH q7;obtain⟨x8,r8,rfl,q8,g8⟩:=e8 g7;obtain⟨x8,rfl⟩:=mF q8;obtain rfl:=rY g8;obtain⟨l8,rfl,b8⟩:=(hi.at (t:=54) (xs:=x8) (by simp)).e rfl;exact⟨.mk x0 x1 x2 x3 x4 x5 x6 x7 l8,(Fk (.mk x0 x1 x2 x3 x4 x5 x6 x7 l8)).symm,.mk _ b8.1 b8.2⟩
def aLA(h:dk kdP row=true)(hi:Hi row):∃s:PL,row=cX s∧s.Ok:=by
 obtain⟨x0,r0,rfl,q0,g0⟩:=e8 h;obtain⟨x0,rfl⟩:=jH q0;obtain⟨x1,r1,rfl,q1,g1⟩:=e8 g0;obtain⟨x1,rfl⟩:=jH q1;obtain⟨x2,r2,rfl,q2,g2⟩:=e8 g1;obtain⟨x2,rfl⟩:=jH q2;obtain⟨x3,r3,rfl,q3,g3⟩:=e8 g2;obtain⟨x3,rfl⟩:=jH q3;obtain⟨x4,r4,rfl,q4,g4⟩:=e8 g3;obtain⟨x4,rfl⟩:=mF q4;obtain rfl:=rY g4;obtain⟨l4,rfl,b4⟩:=(hi.at (t:=54) (xs:=x4) (by simp)).e rfl;exact⟨⟨x0,x1,x2,x3,l4⟩,rfl,b4⟩
def aLB(h:dk KL row=true)(hi:Hi row):∃s:OB,row=fU s∧s.Ok:=by
 obtain⟨x0,r0,rfl,q0,g0⟩:=e8 h;obtain⟨x0,rfl⟩:=jH q0;obtain⟨x1,r1,rfl,q1,g1⟩:=e8 g0;obtain⟨x1,rfl⟩:=jH q1;obtain⟨x2,r2,rfl,q2,g2⟩:=e8 g1;obtain⟨x2,rfl⟩:=jH q2;obtain⟨x3,r3,rfl,q3,g3⟩:=e8 g2;obtain⟨x3,rfl⟩:=Fg q3;obtain⟨x4,r4,rfl,q4,g4⟩:=e8 g3;obtain⟨x4,rfl⟩:=mF q4;obtain rfl:=rY g4;obtain⟨l4,rfl,b4⟩:=(hi.at (t:=3) (xs:=x4) (by simp)).i rfl;exact⟨⟨x0,x1,x2,x3,l4⟩,rfl,b4⟩
def aLC(h:dk kdN row=true)(hi:Hi row):∃s:EN,row=iM s∧s.Ok:=by
 obtain⟨x0,r0,rfl,q0,g0⟩:=e8 h;obtain⟨x0,rfl⟩:=mF q0;obtain⟨x1,r1,rfl,q1,g1⟩:=e8 g0;obtain⟨x1,rfl⟩:=mF q1;obtain rfl:=rY g1;obtain⟨l0,rfl,b0⟩:=(hi.at (t:=3) (xs:=x0) (by simp)).i rfl;obtain⟨l1,rfl,b1⟩:=(hi.at (t:=3) (xs:=x1) (by simp)).i rfl;exact⟨⟨l0,l1⟩,rfl,b0,b1⟩
def aLz(h:dk kdQ row=true)(hi:Hi row):∃s:PR,row=fr s∧s.Ok:=by
 obtain⟨x0,r0,rfl,q0,g0⟩:=e8 h;obtain⟨x0,rfl⟩:=jH q0;obtain⟨x1,r1,rfl,q1,g1⟩:=e8 g0;obtain⟨x1,rfl⟩:=mF q1;obtain⟨x2,r2,rfl,q2,g2⟩:=e8 g1;obtain⟨x2,rfl⟩:=mF q2;obtain rfl:=rY g2;obtain⟨l1,rfl,b1⟩:=(hi.at (t:=3) (xs:=x1) (by simp)).i rfl;obtain⟨l2,rfl,b2⟩:=(hi.at (t:=54) (xs:=x2) (by simp)).e rfl;exact⟨⟨x0,l1,l2⟩,rfl,b1,b2⟩
def CB(h:dk np row=true)(hi:Hi row):∃s:CS,row=encS s∧s.Ok:=by
 obtain⟨x0,r0,rfl,q0,g0⟩:=e8 h;obtain⟨x0,rfl⟩:=jH q0;obtain⟨x1,r1,rfl,q1,g1⟩:=e8 g0;obtain⟨x1,rfl⟩:=jH q1;obtain⟨x2,r2,rfl,q2,g2⟩:=e8 g1;obtain⟨x2,rfl⟩:=jH q2;obtain⟨x3,r3,rfl,q3,g3⟩:=e8 g2;obtain⟨x3,rfl⟩:=jH q3;obtain⟨x4,r4,rfl,q4,g4⟩:=e8 g3;obtain⟨x4,rfl⟩:=jH q4;obtain⟨x5,r5,rfl,q5,g5⟩:=e8 g4;obtain⟨x5,rfl⟩:=jH q5;obtain⟨x6,r6,rfl,q6,g6⟩:=e8 g5;obtain⟨x6,rfl⟩:=Fg q6;obtain⟨x7,r7,rfl,q7,g7⟩:=e8 g6;obtain⟨x7,rfl⟩:=Fg q7;obtain⟨x8,r8,rfl,q8,g8⟩:=e8 g7;obtain⟨x8,rfl⟩:=Fg q8;obtain⟨x9,r9,rfl,q9,g9⟩:=e8 g8;obtain⟨x9,rfl⟩:=Fg q9;obtain⟨x10,ey,rfl,my,g10⟩:=e8 g9;obtain⟨x10,rfl⟩:=Fg my;obtain⟨Kx,fx,rfl,qH,g11⟩:=e8 g10;obtain⟨Kx,rfl⟩:=jH qH;obtain⟨x12,fw,rfl,pz,g12⟩:=e8 g11;obtain⟨x12,rfl⟩:=mF pz;obtain⟨x13,fv,rfl,yL,g13⟩:=e8 g12;obtain⟨x13,rfl⟩:=mF yL;obtain⟨x14,fa,rfl,vz,g14⟩:=e8 g13;obtain⟨x14,rfl⟩:=mF vz;obtain⟨x15,AH,rfl,vv,g15⟩:=e8 g14;obtain⟨x15,rfl⟩:=mF vv;obtain⟨x16,AG,rfl,yK,g16⟩:=e8 g15;obtain⟨x16,rfl⟩:=mF yK;obtain⟨x17,AF,rfl,vu,g17⟩:=e8 g16;obtain⟨x17,rfl⟩:=mF vu;obtain⟨x18,AE,rfl,KE,g18⟩:=e8 g17;obtain⟨x18,rfl⟩:=mF KE;obtain⟨x19,AD,rfl,Di,g19⟩:=e8 g18;obtain⟨x19,rfl⟩:=mF Di;obtain⟨x20,AB,rfl,q20,g20⟩:=e8 g19;obtain⟨x20,rfl⟩:=mF q20;obtain rfl:=rY g20;obtain⟨l12,rfl,b12⟩:=(hi.at (t:=54) (xs:=x12) (by simp)).e rfl;obtain⟨l13,rfl,b13⟩:=(hi.at (t:=54) (xs:=x13) (by simp)).e rfl;obtain⟨l14,rfl,b14⟩:=(hi.at (t:=118) (xs:=x14) (by simp)).p rfl;obtain⟨l15,rfl,b15⟩:=(hi.at (t:=118) (xs:=x15) (by simp)).p rfl;obtain⟨l16,rfl,b16⟩:=(hi.at (t:=3) (xs:=x16) (by simp)).i rfl;obtain⟨l17,rfl,b17⟩:=(hi.at (t:=41) (xs:=x17) (by simp)).s rfl;obtain⟨l18,rfl,b18⟩:=(hi.at (t:=110) (xs:=x18) (by simp)).d rfl;obtain⟨RZ,rfl,b19⟩:=(hi.at (t:=112) (xs:=x19) (by simp)).h rfl;obtain⟨l20,rfl,SA⟩:=(hi.at (t:=115) (xs:=x20) (by simp)).a rfl;have hm:0<=Kx:=by
  have:=(hi (bE Kx) (by simp)).1;cases this with
  |int _ _ h=>exact(wf_u8 h).1
 refine⟨.mk ⟨x0,x1,x2,x3,x4,x5,x6,x7,x8,x9,x10,Kx,l12,l13,l14,l15,l16⟩ l17 l18 RZ l20,(Fj (.mk ⟨x0,x1,x2,x3,x4,x5,x6,x7,x8,x9,x10,Kx,l12,l13,l14,l15,l16⟩ l17 l18 RZ l20)).symm,.mk _ ⟨b12,b13,b14,b15,b16,hm⟩ b17.1 b18.1 b19.1 SA.1 (λx hx=>(b19.2 x hx).1) (λx hx=>(SA.2 x hx).1) λy hy=> ?_⟩;simp only [CS.kids,jO,E7,zD,CS.L,CS.D,CS.H,CS.A,gN,OU,or_false]at hy;rcases hy with⟨x,hx,h|h⟩|h|⟨x,hx,rfl⟩|⟨x,hx,h|h⟩
 ·rw [h];exact(b18.2 x hx).1
 ·rw [h];exact(b18.2 x hx).2
 ·exact b17.2 y h
 ·exact(b19.2 x hx).2
 ·rw [h];exact(SA.2 x hx).2.1
 ·rw [h];exact(SA.2 x hx).2.2
def aLF(h:dk (np++np) row=true)(hi:Hi row):∃s:CD,row=cq s∧s.d.Ok∧s.u.Ok:=by
 obtain⟨r,t,rfl,h1,h2⟩:=xy h;obtain⟨a,rfl,ha⟩:=CB h1 hi.l;obtain⟨b,rfl,hb⟩:=CB h2 hi.r;exact⟨.mk a b,rfl,ha,hb⟩
def aLE(h:dk ([.slice 3]++np) row=true)(hi:Hi row):∃s:CH,row=cA s∧s.qn∧s.body.Ok:=by
 obtain⟨r,t,rfl,h1,h2⟩:=xy h;obtain⟨a,rfl,ha⟩:=CB h2 hi.r;obtain⟨x,r,rfl,q,g⟩:=e8 h1;obtain⟨x,rfl⟩:=mF q;obtain rfl:=rY g;obtain⟨l,rfl,b⟩:=(hi.at (t:=3) (xs:=x) (by simp)).i rfl;exact⟨.mk l a,rfl,⟨b⟩,ha⟩
def aLG(h:dk ([.int .u8]++(GP++([.int .i64,.slice 54]++(np++np)))) row=true)(hi:Hi row):∃s:CA,row=cw s∧s.qn∧s.body.Ok∧s.after.Ok:=by
 obtain⟨r1,t1,rfl,h1,h⟩:=xy h;obtain⟨r2,t2,rfl,h2,h⟩:=xy h;obtain⟨r3,t3,rfl,h3,h⟩:=xy h;obtain⟨r4,t4,rfl,h4,h5⟩:=xy h;obtain⟨g,rfl,hg⟩:=amW h2 hi.r.l;obtain⟨a,rfl,ha⟩:=CB h4 hi.r.r.r.l;obtain⟨b,rfl,hb⟩:=CB h5 hi.r.r.r.r;obtain⟨x,r,rfl,q,g1⟩:=e8 h1;obtain⟨x,rfl⟩:=jH q;obtain rfl:=rY g1;obtain⟨n,r,rfl,q,g3⟩:=e8 h3;obtain⟨n,rfl⟩:=jH q;obtain⟨y,r,rfl,q,g3⟩:=e8 g3;obtain⟨y,rfl⟩:=mF q;obtain rfl:=rY g3;obtain⟨l,rfl,b2⟩:=(hi.at (t:=54) (xs:=y) (by simp)).e rfl;exact⟨.mk x g n l a b,rfl,⟨hg,b2⟩,ha,hb⟩
def aLy(h:dk ([.int .i64,.slice 134]++(np++[.int .i64])) row=true)(hi:Hi row):∃s:TK,row=cE s∧s.Ok:=by
 obtain⟨r1,t1,rfl,h1,h⟩:=xy h;obtain⟨r2,t2,rfl,h2,h3⟩:=xy h;obtain⟨a,rfl,ha⟩:=CB h2 hi.r.l;obtain⟨x,r,rfl,q,g1⟩:=e8 h1;obtain⟨x,rfl⟩:=jH q;obtain⟨y,r,rfl,q,g1⟩:=e8 g1;obtain⟨y,rfl⟩:=mF q;obtain rfl:=rY g1;obtain⟨z,r,rfl,q,g3⟩:=e8 h3;obtain⟨z,rfl⟩:=jH q;obtain rfl:=rY g3;obtain⟨l,rfl,b2⟩:=(hi.at (t:=134) (xs:=y) (by simp)).n rfl;exact⟨⟨x,l,a,z⟩,rfl,b2.1,b2.2,ha⟩
def aLD(h:dk [.int .i64] row=true):∃n:Int,row=[iI n]∧True:=by
 obtain⟨z,r,rfl,q,g3⟩:=e8 h;obtain⟨z,rfl⟩:=jH q;obtain rfl:=rY g3;exact⟨z,rfl,trivial⟩
def K3:CX.K 3=[.int .i64]:=oC
def K54:CX.K 54=GP:=oC
def aom:CX.K 118=kdP:=oC
def K41:CX.K 41=np:=oC
def aop:CX.K 110=np++np:=oC
def aoo:CX.K 112=[.slice 3]++np:=oC
def aon:CX.K 115=[.int .u8]++(GP++([.int .i64,.slice 54]++(np++np))):=oC
def aol:CX.K 120=KL:=oC
def aok:CX.K 134=kdN:=oC
def K57:CX.K 57=[.int .i64,.slice 134]++(np++[.int .i64]):=oC
def K67:CX.K 67=kdQ:=oC
def agR:∀{xs:aZ},(∀r∈xs,1<=iQ r)->xs.length<=oi xs
 | [],_=>xK _
 |r::rs,h=>by
  have:=h r (by simp);have:=agR (xs:=rs) λr hr=>h r (by simp [hr]);simp only [oi,nc];omega
def agQ:∀{xs:aZ} {r:Row},r∈xs->iQ r<=oi xs
 |x::xs,r,h=>by
  simp only [oi];rcases gN.1 h with rfl|h
  ·omega
  ·have:=agQ h;omega
def XG:∀{xs:Row} {r:AV},r∈xs->w4 r<=iQ xs
 |x::xs,r,h=>by
  simp only [iQ];rcases gN.1 h with rfl|h
  ·omega
  ·have:=XG h;omega
def aNq(hk:∀row∈xs,dk (CX.K t) row=true)(hl:∀row∈xs,1<=row.length->True)(hn:oi xs<=mx)(hi:∀row∈xs,Hi row):Dc t xs:=by
 have len:∀{k:Kind} {ks:dZ},CX.K t=k::ks->xs.length<=mx:=λ{k ks} e=>nW (agR λr hr=>by
  have:=iG (hk r hr);rw [e]at this;have:=agS r;simp at*;omega) hn
 refine⟨?_,?_,?_,?_,?_,?_,?_,?_,?_,?_,?_⟩
 ·rintro rfl;have hk:∀row∈xs,dk ([.int .i64]) row=true:=λr hr=>by rw [<-K3];exact hk r hr
  have hlen:=len (K3);obtain⟨l,h1,h2,h3⟩:=lift (enc:=λn:Int=>[iI n]) λr hr=>aLD (hk r hr);exact⟨l,h1,by omega⟩
 ·rintro rfl;have hk:∀row∈xs,dk (GP) row=true:=λr hr=>by rw [<-K54];exact hk r hr
  have hlen:=len (K54);obtain⟨l,h1,h2,h3⟩:=lift λr hr=>amW (hk r hr) (hi r hr);exact wF
 ·rintro rfl;have hk:∀row∈xs,dk (kdP) row=true:=λr hr=>by rw [<-aom];exact hk r hr
  have hlen:=len (aom);obtain⟨l,h1,h2,h3⟩:=lift λr hr=>aLA (hk r hr) (hi r hr);exact wF
 ·rintro rfl;have hk:∀row∈xs,dk (np) row=true:=λr hr=>by rw [<-K41];exact hk r hr
  have hlen:=len (K41);obtain⟨l,h1,h2,h3⟩:=lift λr hr=>CB (hk r hr) (hi r hr);exact wF
 ·rintro rfl;have hk:∀row∈xs,dk (np++np) row=true:=λr hr=>by rw [<-aop];exact hk r hr
  have hlen:=len (aop);obtain⟨l,h1,h2,h3⟩:=lift λr hr=>aLF (hk r hr) (hi r hr);exact wF
 ·rintro rfl;have hk:∀row∈xs,dk ([.slice 3]++np) row=true:=λr hr=>by rw [<-aoo];exact hk r hr
  have hlen:=len (aoo);obtain⟨l,h1,h2,h3⟩:=lift λr hr=>aLE (hk r hr) (hi r hr);exact wF
 ·rintro rfl;have hk:∀row∈xs,dk ([.int .u8]++(GP++([.int .i64,.slice 54]++(np++np)))) row=true:=λr hr=>by rw [<-aon];exact hk r hr
  have hlen:=len (aon);obtain⟨l,h1,h2,h3⟩:=lift λr hr=>aLG (hk r hr) (hi r hr);exact wF
 ·rintro rfl;have hk:∀row∈xs,dk (KL) row=true:=λr hr=>by rw [<-aol];exact hk r hr
  have hlen:=len (aol);obtain⟨l,h1,h2,h3⟩:=lift λr hr=>aLB (hk r hr) (hi r hr);exact wF
 ·rintro rfl;have hk:∀row∈xs,dk (kdN) row=true:=λr hr=>by rw [<-aok];exact hk r hr
  have hlen:=len (aok);obtain⟨l,h1,h2,h3⟩:=lift λr hr=>aLC (hk r hr) (hi r hr);exact wF
 ·rintro rfl;have hk:∀row∈xs,dk ([.int .i64,.slice 134]++(np++[.int .i64])) row=true:=λr hr=>by rw [<-K57];exact hk r hr
  have hlen:=len (K57);obtain⟨l,h1,h2,h3⟩:=lift λr hr=>aLy (hk r hr) (hi r hr);exact wF
 ·rintro rfl;have hk:∀row∈xs,dk (kdQ) row=true:=λr hr=>by rw [<-K67];exact hk r hr
  have hlen:=len (K67);obtain⟨l,h1,h2,h3⟩:=lift λr hr=>aLz (hk r hr) (hi r hr);exact wF
def dec(h:Wf CX.K x):w4 x<=mx->∀t xs,x= .ab t xs->Dc t xs:=by
 induction h with
 |int|bool|str=>exact λ_ _ _ h=>bh
 |ab t xs hl hk hw ih=>
  rintro hn _ _ ⟨⟩;simp only [w4]at hn;exact aNq hk (λ_ _ _=>trivial) (by omega) λrow hr y hy=>⟨hw row hr y hy,ih row hr y hy (by have:=agQ hr;have:=XG hy;omega)⟩
def azq(h:QI CX 26 x)(hn:GK x<=mx):∃p:PG,x=aG p∧p.Ok:=by
 have ha:(CX.ti 26).u.agg =true:=oC;have iX:(CX.ti 26).ks =kdG:=oC;rcases h with⟨_,row,rfl,h2,h3⟩|⟨h1,_⟩
 ·rw [iX]at h2;have hn:iQ row<=mx:=hn;have hi:Hi row:=λy hy=>⟨h3 y hy,dec (h3 y hy) (by have:=XG hy;omega)⟩;rename_i hx;clear hx iX;have h:=h2;obtain⟨x0,r0,rfl,q0,g0⟩:=e8 h;obtain⟨x0,rfl⟩:=mF q0;obtain⟨x1,r1,rfl,q1,g1⟩:=e8 g0;obtain⟨x1,rfl⟩:=jH q1;obtain⟨x2,r2,rfl,q2,g2⟩:=e8 g1;obtain⟨x2,rfl⟩:=mF q2;obtain⟨x3,r3,rfl,q3,g3⟩:=e8 g2;obtain⟨x3,rfl⟩:=mF q3;obtain rfl:=rY g3;obtain⟨l0,rfl,b0⟩:=(hi.at (t:=120) (xs:=x0) (by simp)).o rfl;obtain⟨l2,rfl,b2⟩:=(hi.at (t:=57) (xs:=x2) (by simp)).k rfl;obtain⟨l3,rfl,b3⟩:=(hi.at (t:=67) (xs:=x3) (by simp)).q rfl;exact⟨⟨l0,x1,l2,l3⟩,rfl,b0.1,b0.2,b2.1,b2.2,b3.1,b3.2⟩
 ·rw [ha]at h1;cases h1
def az7(h:QI CX 3 x):∃n,x=iI n∧-9223372036854775808<=n∧n<=9223372036854775807:=by
 have ha:(CX.ti 3).u.agg =false:=oC;have iX:(CX.ti 3).ks =[.int .i64]:=oC;rcases h with⟨h1,_⟩|⟨_,h2,h3⟩
 ·rw [ha]at h1;cases h1
 ·rw [iX]at h2;obtain⟨z,r,e,q,_⟩:=e8 h2;obtain⟨rfl,rfl⟩:=List.cons.inj e;obtain⟨n,rfl⟩:=jH q;cases h3 with
  |int _ _ h=>exact⟨n,rfl,wf_i64 h⟩
mutual
theorem CK:∀s:CS,(fB s).length <=iQ (encS s)
 | .mk f l d h a=>by
   have h1:=akc l;have h2:=ake d;have h3:=akd h;have h4:=akf a;simp only [fB,encS,cW,iQ,w4,nc,fy];omega
theorem akc:∀s:List CS,(iu s).length <=oi (FT s)
 | []=>gz _
 |s::ss=>by
  have h1:=CK s;have h2:=akc ss;simp only [iu,FT,oi,fy];omega
theorem ake:∀s:List CD,(kI s).length <=oi (FW s)
 | []=>gz _
 |s::ss=>by
  have h1:=aMg s;have h2:=ake ss;simp only [kI,FW,oi,fy];omega
theorem aMg:∀s:CD,(Gk s).length <=iQ (cq s)
 | .mk d u=>by
   have h1:=CK d;have h2:=CK u;simp only [Gk,cq,EO,fy];omega
theorem akd:∀s:List CH,(nZ s).length <=oi (FV s)
 | []=>gz _
 |s::ss=>by
  have h1:=aMe s;have h2:=akd ss;simp only [nZ,FV,oi,fy];omega
theorem aMe:∀s:CH,(CG s).length <=iQ (cA s)
 | .mk e b=>by
   have h1:=CK b;simp only [CG,cA,iQ];omega
theorem akf:∀s:List CA,(oB s).length <=oi (FX s)
 | []=>gz _
 |s::ss=>by
  have h1:=aMh s;have h2:=akf ss;simp only [oB,FX,oi,fy];omega
theorem aMh:∀s:CA,(Gl s).length <=iQ (cw s)
 | .mk k g n e b a=>by
   have h1:=CK b;have h2:=CK a;simp only [Gl,cw,iQ,EO,fy];omega
end
def anj:∀l:List TK,(eW l).length <=oi (l.map cE)
 | []=>gz _
 |t::l=>by
  have h1:=CK t.body;have h2:=anj l;simp only [eW,nf,oi,cE,iQ,EO,fy];omega
def aMf(p:PG):(eW p.tasks).length <=GK (aG p):=by
 have:=anj p.tasks;show _<=iQ (mN p);simp only [mN,iQ,w4];omega
end
end Go.Proofs.YtomkobcipaligaaGreatDoor
