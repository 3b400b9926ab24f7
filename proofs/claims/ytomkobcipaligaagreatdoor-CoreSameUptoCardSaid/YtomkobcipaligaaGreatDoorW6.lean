/-
  What is read of an argument, as typed data.
-/
import Derived.Test.YtomkobcipaligaaGreatDoorW5
import Derived.Test.YtomkobcipaligaaGreatDoorW4
import Derived.Test.YtomkobcipaligaaGreatDoorW3
set_option linter.all false
set_option linter.deprecated false
set_option maxHeartbeats 4000000
namespace Go.aj
def vz{p:Prop}(h:p:=by simp [eQ]):p:=h
def Na{p:Prop}(h:p:=by exact λz hz=>this z (by simp [hz])):p:=h
def akM{p:Prop}(h:p:=by obtain⟨a,b,c,d⟩:=hi.o o ho;exact⟨a,b,c,d,hp.obj o ho⟩):p:=h
end Go.aj
namespace Go.Proofs.B
open Go Go.aj T C
section
variable{t:Nat}{p:PG}
def pa{n:Int}(h:Wf CX.K (iI n)):cQ n=true:=by
 cases h with
 |int _ _ h=>
  simp only [Lit.wf,IntKind.min,IntKind.max,IntKind.signed,IntKind.bits,bw,gG,lG]at h;simp only [cQ,bw,gG];omega
def wY{α:Type}{enc:α->Row}{l:List α}(h:Wf CX.K (.ae t (l.map enc))):∀a∈l,∀y∈enc a,Wf CX.K y:=λa ha y hy=>by
 cases h with
 |ae _ _ _ _ hw=>exact hw _ (Zn ha) y hy
def IV{l:bQ}(h:Wf CX.K (.ae t (ints l))):∀n∈l,cQ n=true:=λn hn=>pa (wY h n hn (iI n) (by simp))
def anc:∀e:CE,(∀y∈aZ e,Wf CX.K y)->IE e:=by
 refine CE.ind λe ih h=> ?_;rw [zL]at h;exact .mk e (pa (h _ (by simp))) (pa (h (iI e.O) (by simp))) (pa (h (iI e.off) (by simp))) (pa (h (iI e.len) (by simp))) (pa (h (iI e.lo) (by simp))) (pa (h (iI e.hi) (by simp))) λy hy=>ih y hy (wY (h (bR (e.L.map aZ)) (by simp)) y hy)
def Ng{l:List CE}(h:Wf CX.K (.ae t (l.map aZ))):∀e∈l,IE e:=λe he=>anc e (wY h e he)
def anb{q:PL}(h:∀y∈cN q,Wf CX.K y):IP q:=
 ⟨pa (h (iI q.O) (by simp [cN])),pa (h (iI q.off) (by simp [cN])),pa (h (iI q.len) (by simp [cN])),Ng (h (bR (q.E.map aZ)) (by simp [cN]))⟩
def ai6(d:CD):fC d=encS d.d++encS d.u:=by cases d;rfl
def Z8(x:CH):dH x= aM (ints x.dP)::encS x.body:=by cases x;rfl
def Z9(x:CA):dY x= cE x.kind::(aZ x.guard++(iI x.entry:: bR (x.E.map aZ)::(encS x.body++encS x.after))):=by cases x;rfl
def aEl:∀s:CS,(∀y∈encS s,Wf CX.K y)->IS s:=by
 refine CS.ind λs ih h=> ?_;rw [xI]at h;have hL:=wY (h (cX (s.L.map encS)) (vz));have hD:=wY (h (gN (s.D.map fC)) (vz));have hH:=wY (h (gy (s.H.map dH)) (vz));have hA:=wY (h (eh (s.A.map dY)) (vz));refine .mk s ⟨pa (h (iI s.f.N) (vz)),pa (h (iI s.f.O) (vz)),pa (h (iI s.f.T) (vz)),pa (h (iI s.f.P) (vz)),pa (h (iI s.f.entry) (vz)),IV (h (aM (ints s.f.Ts)) (vz)),
  Ng (h (bR (s.f.E.map aZ)) (vz)),Ng (h (bR (s.f.Ins.map aZ)) (vz)),λq hq=>anb (wY (h (dj (s.f.To.map cN)) (vz)) q hq),λq hq=>anb (wY (h (dj (s.f.fE.map cN)) (vz)) q hq)⟩
  (λx hx=> ?_) (λx hx=> ?_) λy hy=>ih y hy ?_
 ·have:=hH x hx;rw [Z8]at this;exact IV (this (aM (ints x.dP)) (by simp))
 ·have:=hA x hx;rw [Z9]at this;exact⟨anc _ λy hy=>this y (by simp [hy]),pa (this (iI x.entry) (by simp)),Ng (this (bR (x.E.map aZ)) (by simp))⟩
 ·simp only [CS.kids,mE,zG,xA,fV,pY,pX]at hy;rcases hy with⟨d,hd,h⟩|h|⟨x,hx,rfl⟩|⟨x,hx,h⟩
  ·have:=hD d hd;rw [ai6]at this;rcases h with rfl|rfl
   ·exact Na
   ·exact Na
  ·exact hL y h
  ·have:=hH x hx;rw [Z8]at this;exact Na
  ·have:=hA x hx;rw [Z9]at this;rcases h with rfl|rfl
   ·exact Na
   ·exact Na
structure IG(p:PG):Prop where
 o:∀o∈p.aR,cQ o.size=true/\cQ o.lo=true/\cQ o.hi=true/\∀n∈o.set,cQ n=true
 x:cQ p.dP=true
 t:∀t∈p.tasks,cQ t.prio=true/\cQ t.dead=true/\(∀e∈t.aU,(∀n∈e.ins,cQ n=true)/\∀n∈e.outs,cQ n=true)/\IS t.body
 q:∀q∈p.c5,cQ q.ceil=true/\(∀n∈q.kV,cQ n=true)/\∀e∈q.bars,IE e
def aEn(h:∀y∈km p,Wf CX.K y):IG p:=by
 refine⟨λo ho=> ?_,pa (h (iI p.dP) (by simp [km])),λt ht=> ?_,λq hq=> ?_⟩
 ·have:=wY (h (bl (p.aR.map cg)) (by simp [km])) o ho;exact⟨pa (this (iI o.size) (by simp [cg])),pa (this (iI o.lo) (by simp [cg])),pa (this (iI o.hi) (by simp [cg])),IV (this (aM (ints o.set)) (by simp [cg]))⟩
 ·have:=wY (h (jr (p.tasks.map dv)) (by simp [km])) t ht;refine⟨pa (this (iI t.prio) (by simp [dv])),pa (this (iI t.dead) (by simp [dv])),λe he=> ?_,aEl _ λy hy=>this y (by simp [dv,hy])⟩;have:=wY (this (oh (t.aU.map iH)) (by simp [dv])) e he;exact⟨IV (this (aM (ints e.ins)) (by simp [iH])),IV (this (aM (ints e.outs)) (by simp [iH]))⟩
 ·have:=wY (h (kq (p.c5.map gk)) (by simp [km])) q hq;exact⟨pa (this (iI q.ceil) (by simp [gk])),IV (this (aM (ints q.kV)) (by simp [gk])),Ng (this (bR (q.bars.map aZ)) (by simp [gk]))⟩
def aD1(h:vR p=true):∀o∈p.aR,(o.ptr=true->o.lo=0/\o.hi=0)/\(o.ptr=false->o.set=[]):=λo ho=>by
 have U:=(Z1 h).1;have hb:tQ p.aR o=true:=by
  unfold yO at U;cases a:decide (ln (cz p.aR)<1)with
  |true=>rw [a]at U;cases U
  |false=>
   cases b:decide (2048<ln (cz p.aR))with
   |true=>rw [a,b]at U;cases U
   |false=>
    cases c:p.aR.all (tQ p.aR)with
    |false=>rw [a,b,c]at U;cases U
    |true=>exact mz.1 c o ho
 unfold tQ at hb;rw [bw]at hb;refine⟨λhp=> ?_,λhp=> ?_⟩
 ·rw [hp]at hb;have h3:=hb.2;simp only [RC,cf,bw]at h3;have h3:=h3.1;unfold xf at h3;cases a:o.size != 1 with
  |true=>rw [a]at h3;cases h3
  |false=>
   cases b:o.lo != 0 with
   |true=>rw [a,b]at h3;cases h3
   |false=>
    cases c:o.hi != 0 with
    |true=>rw [a,b,c]at h3;cases h3
    |false=>exact⟨by simpa using b,by simpa using c⟩
 ·rw [hp]at hb;have h2:=hb.2;simp only [RQ,bU]at h2;unfold AB at h2;cases a:decide (0<ln (ints o.set))with
  |true=>rw [a]at h2;cases h2
  |false=>
   rw [fM]at a;simp only [ahK]at a;exact wE (by omega)
def ami(hp:p.Ok)(h:MP p):WG p:=
 ⟨aD1 h.hd,λq hq e he=>Br e (h.Pq q hq e he),λt ht=>ame t.body (h.all t ht) (hp.task t ht).body⟩
def rg_of(hp:p.Ok)(h:MP p)(hi:IG p):RG p:=
 ⟨hp.aR,λo ho=>akM,hi.x,hp.c5,
   λq hq=>by
    obtain⟨a,b,c⟩:=hi.q q hq;exact⟨a,⟨b,(hp.ov q hq).kV⟩,(hp.ov q hq).bars.1,λe he=>⟨Br e (h.Pq q hq e he),Jv e (h.Pq q hq e he) (c e he)⟩⟩,
   hp.tasks,λt ht=>by
    obtain⟨a,b,c,d⟩:=hi.t t ht;have ok:=hp.task t ht;exact⟨a,b,⟨ok.len,λe he=>⟨⟨(c e he).1,(ok.aU e he).1⟩,(c e he).2,(ok.aU e he).2⟩⟩,ame t.body (h.all t ht) ok.body,aDM t.body (h.all t ht) ok.body d⟩⟩
end
end Go.Proofs.B
namespace Go.aj
def alm{p:Prop}(h:p:=by
 repeat' refine aBJ (λ_=> ?_) λ_=> ?_
 all_goals try simp only [cw,fk,gD]
 all_goals omega):p:=h
end Go.aj
namespace Go.Proofs.B
open Go Go.aj T C
section
variable{b:Bool}{f:dU}{z:Int->Int}{t:List UInt8}{X:Nat}
def Se:∀a b:Row,dW (a++b)=dW a+dW b
 | [],b=>by simp [dW]
 |x::a,b=>by simp only [hY,dW,Se a b];omega
def MM{α:Type}{enc:α->Row}{f:α->List UInt8}{C:Nat}:∀{l:List α},(∀y∈l,(f y).length <=dW (enc y)*C)->((l.map f).flatten).length <=fI (l.map enc)*C
 | [],_=>qy _
 |y::l,h=>by
  have U:=h y (ez ..);have h2:=MM (l:=l) λz hz=>h z (fJ _ hz);simp only [jG,mY,cw,fI,mw];omega
def join_le{α:Type}{enc:α->Row}{f:α->List UInt8}{C:Nat}:∀{l:List α},(∀y∈l,(f y).length +2<=dW (enc y)*C)->(jg (l.map f)).length <=fI (l.map enc)*C
 | [],_=>qy _
 | [y],h=>by
   have U:=h y (ez ..);simp only [jG,RL,jg,fI,mw];omega
 |y::z::l,h=>by
  have U:=h y (ez ..);have h2:=join_le (l:=z::l) λz hz=>h z (fJ _ hz);simp only [jG]at h2;simp only [jG,jg,cw,fk];simp only [fI,mw]at h2⊢;omega
def MH{α:Type}{enc:α->Row}{f:α->List UInt8}{C:Nat}{l:List α}(h:∀y∈l,(f y).length +2<=dW (enc y)*C):((l.map f).getD 0 []).length +((l.map f).getD 1 []).length <=fI (l.map enc)*C:=by
 match l,h with
 | [],_=>simp
 | [y],h=>
   have:=h y (by simp);simp [fI];omega
 |y::z::l,h=>
  have U:=h y (by simp);have h2:=h z (by simp);simp [fI,mw];omega
def aBJ{c:Prop}[Decidable c]{a b:List UInt8}(U:c->a.length<=X)(h2:¬c->b.length<=X):(if c then a else b).length <=X:=by
 by_cases h:c
 ·rw [if_pos h];exact U h
 ·rw [if_neg h];exact h2 h
def aCF(k:Int):(pV k).length <=3:=by
 unfold pV;generalize k.toNat=n
 match n with
 |0|1|2|3|4|5|6|7|8|9|10|11|12|13|14|15|16|17|18=>simp
 |n+19=>simp
def ahT{o f:Int}(ho:cQ o=true)(hf:cQ f=true):(vv z o f).length <=42:=by
 have:=kr ho;have:=kr hf;unfold vv;cases z o==1<;>simp<;>omega
def aKb(e:CE):dW (aZ e)=9+fI (e.L.map aZ):=by rw [zL];simp only [dW,rG];omega
def Jo(z:Int->Int):∀e:CE,IE e->(bj z e).length +2<=dW (aZ e)*20:=by
 refine CE.ind λe ih h=> ?_;obtain⟨_,n,o,f,l,a,b,hy⟩:=h;have hk:∀y∈e.L,(bj z y).length +2<=dW (aZ y)*20:=λy h=>ih y h (hy y h);have U:=MH hk;have h2:=join_le hk;have an:=kr n;have ao:=kr o;have af:=kr f;have al:=kr l;have aa:=kr a;have ab:=kr b;have asl:=ahT (z:=z) o f;rw [aKb,mw];clear ih hy hk n o f l a b;obtain⟨k,p,n,o,f,l,a,b,L⟩:=e;have ap:=aCF p;simp only [CE.L,CE.N,CE.O,CE.off,CE.len,CE.lo,CE.hi]at*;generalize fI (L.map aZ)*20=X at U h2⊢;unfold bj;rw [yx];generalize (L.map (bj z)).getD 0 []=u at U⊢;generalize (L.map (bj z)).getD 1 []=v at U⊢;generalize jg (L.map (bj z))=w at h2⊢;generalize Lib.itoa n=tn at an⊢;generalize Lib.itoa o=t_o at ao⊢;generalize Lib.itoa f=tf at af⊢;generalize Lib.itoa l=tl at al⊢;generalize Lib.itoa a=ta at aa⊢;generalize Lib.itoa b=tb at ab⊢;generalize vv z o f=ts at asl⊢;generalize pV p=tp at ap⊢;show _<=9*20+X;refine Nat.add_le_of_le_sub (by omega) ?_;rw [show 9*20+X- 2=178+X by omega];exact alm
def aJ9(q:PL):dW (cN q)=5+fI (q.E.map aZ):=by simp only [cN,dW,rG];omega
def ajq(z:Int->Int){q:PL}(h:IP q):(fS z q).length +2<=dW (cN q)*20:=by
 have U:=MH (C:=20) λy hy=>Jo z y (h.e y hy);have ao:=kr h.o;have af:=kr h.f;have al:=kr h.l;have asl:=ahT (z:=z) h.o h.f;rw [aJ9,mw];unfold fS;rw [yx];generalize fI (q.E.map aZ)*20=X at U⊢;generalize (q.E.map (bj z)).getD 0 []=u at U⊢
 repeat' split
 all_goals try simp only [cw,fk,gD]
 all_goals omega
def nF(f:dU):Nat:=fI (f.E.map aZ)+(fI (f.Ins.map aZ)+(fI (f.To.map cN)+(fI (f.fE.map cN)+fI (ints f.Ts))))
def I5:∀l:bQ,fI (ints l)=l.length
 | []=>rfl
 |n::l=>by simp only [jG,fI,dW,rG,I5 l,fk];omega
def aCM(h:(rJ z f).length <=X):(nC z f).length <=8+X:=by
 unfold nC
 repeat' split
 all_goals try simp only [fk,gD]
 all_goals omega
def zM:(bif b then t else []).length <=t.length:=by cases b<;>simp
def aA5:(bif b then []else t).length <=t.length:=by cases b<;>simp
def aCQ(z:Int->Int)(h:IF f):(ck z f).length <=130+nF f*21:=by
 have e1:=MH (C:=20) λy hy=>Jo z y (h.E y hy);have e2:=join_le (C:=20) λy hy=>Jo z y (h.I y hy);have e3:=MH (C:=20) λy hy=>ajq z (h.To y hy);have e4:=join_le (C:=20) λy hy=>ajq z (h.Out y hy);have e5:=Bi h.S;have aN:=kr h.N;have aO:=kr h.O;have aT:=kr h.T;have aP:=kr h.P;have ay:=kr h.y;have hm:=aCM (z:=z) (f:=f) (X:=fI (f.E.map aZ)*20) (by unfold rJ;rw [yx];omega);unfold nF;rw [I5];unfold ck rJ y5;rw [yx,yx];generalize fI (f.E.map aZ)=X1 at e1 hm⊢;generalize fI (f.Ins.map aZ)=X2 at e2⊢;generalize fI (f.To.map cN)=X3 at e3⊢;generalize fI (f.fE.map cN)=X4 at e4⊢;generalize (f.E.map (bj z)).getD 0 []=u at e1⊢;generalize (f.E.map (bj z)).getD 1 []=v at e1⊢;generalize (f.To.map (fS z)).getD 0 []=u2 at e3⊢;generalize jg (f.Ins.map (bj z))=w at e2⊢;generalize jg (f.fE.map (fS z))=w2 at e4⊢;generalize nC z f=md at hm⊢;generalize dL f.Ts=lt at e5⊢;have b1:=zM (b:=f.rev) (t:=[114,101,118,101,114,115,101,32]);have b2:=aA5 (b:=f.Ts.isEmpty) (t:=32::116::97::115::107::115::lt);have b3:=zM (b:=decide (0<f.N)) (t:=32::Lib.itoa f.N);have b4:=zM (b:=f.In) (t:=32::111::102::32::Lib.itoa f.P);have b5:=zM (b:=f.lu) (t:=[117,110,116,105,108,32]);have b6:=zM (b:=f.els) (t:=[32,101,108,115,101]);have b7:=zM (b:=f.jT) (t:=[32,97,98,111,114,116]);simp only [fk,gD]at b1 b2 b3 b4 b5 b6 b7;generalize Lib.itoa f.N=tN at aN b3⊢;generalize Lib.itoa f.O=tO at aO⊢;generalize Lib.itoa f.T=tT at aT⊢;generalize Lib.itoa f.P=tP at aP b4⊢;generalize Lib.itoa f.entry=ty at ay⊢;exact alm
end
end Go.Proofs.B
namespace Go.aj
def ak5{p:Prop}(h:p:=by
 simp only [D0,M0]at*;simp only [cw,fk,gD,mY,wB,i1];omega):p:=h
end Go.aj
namespace Go.Proofs.B
open Go Go.aj T C
abbrev D0:Nat:=4200000
abbrev M0:Nat:=2097200
def ao1(s:CS):dW (encS s)=21+(nF s.f+(fI (s.L.map encS)+(fI (s.D.map fC)+(fI (s.H.map dH)+fI (s.A.map dY))))):=by
 rw [xI];unfold nF;simp only [eQ,dW,rG];omega
def MT{α:Type}{enc:α->Row}:∀{l:List α} {y:α},y∈l->dW (enc y)<=fI (l.map enc)
 |z::l,y,h=>by
  simp only [jG,fI];rcases fV.1 h with rfl|h
  ·omega
  ·have:=MT (enc:=enc) h;omega
def aEw{z:Int->Int}{l:List CS}{k C:Nat}(h:∀y∈l,(cM z k y).length <=dW (encS y)*C):((qF z k l).getD 0 []).length <=fI (l.map encS)*C:=by
 rw [yv]
 match l,h with
 | [],_=>simp
 |y::l,h=>
  have:=h y (by simp);simp [fI,mw];omega
def aCm(z:Int->Int):∀s:CS,IS s->∀k,k+2*dW (encS s)<=M0->(cM z k s).length +D0<=dW (encS s)*D0:=by
 refine CS.ind λs ih hi k hk=> ?_;obtain⟨_,iF,ix,iq,ik⟩:=hi;have od:=aCQ z iF;have n21:21<=dW (encS s):=by rw [ao1];omega
 have qk:∀y∈s.kids,2*dW (encS y)+42<=2*dW (encS s)->∀j,j<=k+2->(cM z j y).length +D0<=dW (encS y)*D0:=λy hy hn j hj=>ih y hy (ik y hy) j (by simp only [M0]at hk⊢;omega);have Vf:=ao1 s;have sL:∀y∈s.L,∀j,j<=k+2->(cM z j y).length <=dW (encS y)*D0:=λy hy j hj=>by
  have:=MT (enc:=encS) hy;have:=qk y (yR hy) (by omega) j hj;omega
 have sD:((s.D.map (dT z k)).flatten).length <=fI (s.D.map fC)*D0:=MM λd hd=>by
  have h0:=MT (enc:=fC) hd;have U:dW (fC d)=dW (encS d.d)+dW (encS d.u):=by rw [ai6,Se]
  have k1:=qk _ (wU hd).1 (by omega) (k+2) (iZ _);have k2:=qk _ (wU hd).2 (by omega) (k+2) (iZ _);have i1:=uj (k+1);unfold dT;rw [U,mw];simp only [D0,M0]at*;cases lA d.u==1<;>simp only [bU,cf,cw,fk,gD,mY,wB,i1]<;>omega
 have sH:((s.H.map (hT z k)).flatten).length <=fI (s.H.map dH)*D0:=MM λx hx=>by
  have h0:=MT (enc:=dH) hx;have U:dW (dH x)=(x.dP.length+1)+dW (encS x.body):=by rw [Z8];simp only [dW,rG,I5]
  have k1:=qk _ (GI hx) (by omega) (k+2) (iZ _);have i1:=uj (k+1);have h2:=Bi (ix x hx);have h3:=zM (b:=x.dP.isEmpty) (t:=[32,111,116,104,101,114,115]);simp only [fk,gD]at h3;unfold hT;rw [U,mw];exact ak5
 have sA:((s.A.map (aT z k)).flatten).length <=fI (s.A.map dY)*D0:=MM λx hx=>by
  have h0:=MT (enc:=dY) hx;have U:dW (dY x)=1+(dW (aZ x.guard)+(1+(fI (x.E.map aZ)+1+(dW (encS x.body)+dW (encS x.after))))):=by rw [Z9];simp only [dW,rG,Se]
  have k1:=qk _ (wV hx).1 (by omega) (k+2) (iZ _);have k2:=qk _ (wV hx).2 (by omega) (k+2) (iZ _);have i1:=uj (k+1);obtain⟨q1,q2,q3⟩:=iq x hx;have h2:=Jo z x.guard q1;have h3:=MH (C:=20) λy hy=>Jo z y (q3 y hy);have h4:=kr q2;have h5:(rK z x.kind x.entry x.E).length <=30+fI (x.E.map aZ)*20:=by
   unfold rK;rw [yx]
   repeat' split
   all_goals simp only [fk,gD]
   all_goals omega
  have h6:=zM (b:=x.kind==1) (t:=cM z (k+2) x.body);have h7:=zM (b:=x.kind != 4) (t:=cM z (k+2) x.after);unfold aT;rw [U];simp only [mw];exact ak5
 have x1:=MM (f:=cM z (k+1)) λy hy=>sL y hy (k+1) (by omega);have x2:=aEw (z:=z) (k:=k+2) λy hy=>sL y hy (k+2) (by omega);have x3:(((s.L.map (cM z (k+1))).take 1).flatten).length <=fI (s.L.map encS)*D0:=by
  refine qR ?_ x1;have e:((s.L.map (cM z (k+1))).take 1).flatten ++((s.L.map (cM z (k+1))).drop 1).flatten =(s.L.map (cM z (k+1))).flatten :=by rw [<-C9,RK]
  have:=xC List.length e;rw [cw]at this;omega
 have e:(cM z k s).length <=2*k+((ck z s.f).length +1+(2*(k+1)+6+((s.D.map (dT z k)).flatten.length +(fI (s.L.map encS)*D0+((s.H.map (hT z k)).flatten.length +(s.A.map (aT z k)).flatten.length))))):=by
  clear sD sH sA Vf qk sL ih ik ix iq iF od hk n21;obtain⟨f,L,D,H,A⟩:=s;simp only [CS.f,CS.L,CS.D,CS.H,CS.A]at*;have i0:=uj k;have i1:=uj (k+1);simp only [cM,aab,Z0,Sr,cw,fk,i0];rw [yv]at x2⊢;rw [yv];have h6:=zM (b:=f.els) (t:=(L.map (cM z (k+1))).flatten)
  repeat' split
  all_goals (try simp only [cw,fk,gD,i1])
  all_goals omega
 rw [Vf];simp only [mw];simp only [D0,M0]at*;omega
end Go.Proofs.B
namespace Go.aj
def Rs:=@List.getElem_take
def ahC:=@List.pairwise_singleton
end Go.aj
namespace Go.Proofs.B.C
open Go Go.aj
section
variable{i:Nat}{l:bQ}
def agF:∀l:bQ,FW (qX l)=some l
 | []=>rfl
 |x::l=>by
  show(match FW (qX l)with|some l'=>some (x::l')|none=>none)=_;rw [agF l]
def aDz(N:Nat):FU CX EE (N+24) PV [aM []]=some (0,[aM []]):=pK
def aDl:EE[PV]?=some PX:=pK
def azG(z:Int)(zs:bQ):Gy PX [aM (qX (z::zs))]=match FW (qX (z::zs))with|some l=>bf (Nat.ble l.length 4611686018427387903) (some (0,[.ae 3 (qX (qa l))]))|none=>none:=pK
def aFb(hl:l.length<=mx):Ev PV [aM (ints l)] (0,[aM (ints (qa l))]):=by
 cases l with
 |nil=>
  refine⟨24,λN _ h _=> ?_⟩;obtain⟨M,rfl⟩:∃M,N=M+24:=⟨N- 24,by omega⟩;have:qa []=[]:=List.mergeSort_nil;rw [this];exact aDz M
 |cons z zs=>
  refine anw (g:=λ_=>some (0,[aM (ints (qa (z::zs)))])) (λN=> ?_) aH;unfold bN;rw [aDl];show(match Gy PX [aM (qX (z::zs))]with|some o=>some o|none=>_)=_;rw [azG,agF];show(match bf (Nat.ble (z::zs).length 4611686018427387903) (some (0,[AV.ae 3 (qX (qa (z::zs)))]))with|some o=>some o|none=>_)=_;rw [show Nat.ble (z::zs).length 4611686018427387903=true from Nat.ble_eq_true_of_le (SV)];rfl
def agU(l:bQ):(qa l).Perm l:=List.mergeSort_perm l _
def ax8(l:bQ):(qa l).Pairwise (·<= ·):=by
 have:=List.pairwise_mergeSort (le:=λx y:Int=>decide (x<=y)) (λa b c U h2=>by simp at*;omega) (λa b=>fB) l;exact this.imp λh=>qc
def toNl{o:Int}{n:Nat}(h:ib o n=true):decide (o.toNat<n)=true:=by have:=oX.1 h;simp;omega
def gi(h:i<l.length):gI (gA (ints l) i) 0=l[i]:=by
 rw [anl h,wA,dy h];rfl
def aDJ(h:i<l.length)(v:Int):(ints l).set i (setAt (gA (ints l) i) 0 [iI v])=ints (l.set i v):=by
 rw [xL h];show(l.map _).set i [iI v]=(l.set i v).map _;rw [List.map_set]
def Cpt(l r:bQ):Prop:=r.Nodup/\∀x,x∈r ↔ x∈l
def ah2{r:bQ}(h:r.Pairwise (·< ·)):r.Nodup:=h.imp λh e=>by omega
def aLs(hl:l.length<=mx)(hs:l.Pairwise (·<= ·)){k:Nat}(hk:k<l.length):∀(m k2:Nat),k+k2+m=l.length->1<=k2->∀(X R:bQ),X.length=l.length->(∀j,k+k2- 1<=j->j<l.length->X[j]?=l[j]?)->X.take R.length=R->R.length<=k+k2- 1->R.Pairwise (·< ·)->(∀x,x∈R ↔ x∈l.take (k+k2))->∃X' R':bQ,X'.length=l.length/\X'.take R'.length=R'/\R'.length<=l.length/\Cpt l R'/\
 cq HT [iI (R.length:Int),.vw 0 k (l.length- k),iI (k2:Int),aM (ints X)] (0,[iI (R'.length:Int),aM (ints X')]):=by
 intro m;simp only [mx]at hl
 induction m with
 |zero=>
  intro k2 hm U X R hX hj hR hRl Vr Pg;refine⟨X,R,hX,hR,by omega,⟨ah2 Vr,λx=>by rw [Pg,FE (by omega)]⟩,?_⟩;refine bF aem (az ?_ aH);exact fB
 |succ m ih=>
  intro k2 hm U X R hX hj hR hRl Vr Pg;have OU:bH ((k2:Int)- 1)=((k2- 1:Nat):Int):=Dz;have tX:k+k2<X.length:=by omega
  have HA:k+(k2- 1)<X.length:=by omega
  have cH:k+k2<l.length:=by omega
  have EI:X[k+k2]=l[k+k2]:=by
   have:=hj (k+k2) (by omega) cH;rw [dy tX,dy cH]at this;injection this
  have Hp:X[k+(k2- 1)]=l[k+(k2- 1)]:=by
   have:=hj (k+(k2- 1)) (by omega) (by omega);rw [dy HA,dy (by omega)]at this;injection this
  have hle:l[k+(k2- 1)]<=l[k+k2]:=Mq.1 hs _ _ (by omega) cH (by omega);have EO:l.take (k+k2+1)=l.take (k+k2)++[l[k+k2]]:=by rw [FA,dy cH];rfl
  have kl:l[k+(k2- 1)]∈l.take (k+k2):=by
   have:l[k+(k2- 1)]=(l.take (k+k2))[k+(k2- 1)]'(SR):=by rw [Rs]
   rw [this];exact ei _
  have EL:∀x∈R,x<=l[k+(k2- 1)]:=λx hx=>by
   have hx:=(Pg x).1 hx;obtain⟨i,hi,rfl⟩:=IH hx;rw [sB]at hi;rw [Rs]
   by_cases he:i=k+(k2- 1)
   ·subst he;exact A6 _
   ·exact Mq.1 hs _ _ (by omega) (by omega) (by omega)
  have t0:decide ((k2:Int)<((l.length- k:Nat):Int))=true:=fB;have t1:(decide (0<=(k2:Int))&&decide ((k2:Int)<((l.length- k:Nat):Int)))=true:=fB;have t2:decide (k+((k2:Int)).toNat <(ints X).length)=true:=by rw [pZ,fY];simpa using tX
  have t3:(decide (0<=((k2- 1:Nat):Int))&&decide (((k2- 1:Nat):Int)<((l.length- k:Nat):Int)))=true:=fB;have t4:decide (k+(((k2- 1:Nat):Int)).toNat <(ints X).length)=true:=by rw [pZ,fY];simpa using HA
  have hnx:bH ((k2:Int)+1)=((k2+1:Nat):Int):=Dz;have C:∀r:UO,_->cq HT [iI (R.length:Int),.vw 0 k (l.length- k),iI (k2:Int),aM (ints X)] r:=λr h=>by
   refine bF aem ?_;rw [OU];refine bE t0 (aA t1 (aA t2 (aA t3 (aA t4 ?_))));rw [pZ,pZ,gi tX,gi HA,EI,Hp,hnx];exact h
  by_cases he:l[k+k2]=l[k+(k2- 1)]
  ·obtain⟨X',R',q1,q2,q3,q4,q5⟩:=ih (k2+1) (by omega) (by omega) X R hX (λj U h2=>hj j (by omega) h2) hR (by omega) Vr λx=>by
    rw [<-Nat.add_assoc,EO,mE,Pg];constructor
    ·exact λh=> .inl h
    ·rintro(h|h)
     ·exact h
     ·simp at h;subst h;rw [he];exact kl
   exact⟨X',R',q1,q2,q3,q4,C _ (az (Bn) q5)⟩
  ·have Vs:R.length<X.length:=by omega
   have aEo:(X.set R.length l[k+k2]).take (R.length+1)=R++[l[k+k2]]:=by
    rw [FA,uf Vs];rw [List.take_set_of_le (iZ _),hR];rfl
   obtain⟨X',R',q1,q2,q3,q4,q5⟩:=ih (k2+1) (by omega) (by omega) (X.set R.length l[k+k2]) (R++[l[k+k2]]) (by simp [hX]) (λj U h2=>by
    rw [mW (by omega)];exact hj j (by omega) h2) (by rw [cw];exact aEo) (fB)
    (by
      rw [List.pairwise_append];refine⟨Vr,ahC _ _,λa ha b hb=> ?_⟩;simp at hb;subst hb;have:=EL a ha;omega) λx=>by
    rw [<-Nat.add_assoc,EO,mE,mE,Pg]
   have aKE:=aDJ (l:=X) Vs l[k+k2];refine⟨X',R',q1,q2,q3,q4,C _ (bE (Bn) (aA t1 (aA t2 (aA (c:=ib (R.length:Int) (ints X).length) (by rw [fY];exact FX Vs) (aA (by rw [pZ,fY];simpa using Vs) ?_)))))⟩;have zh:bH ((R.length:Int)+1)=((R.length+1:Nat):Int):=Dz;rw [pZ,aKE,zh];rw [cw]at q5;exact q5
def aLr(hl:l.length<=mx)(hs:l.Pairwise (·<= ·)):∀(m k:Nat),k+m=l.length->1<=k->(l.take k).Pairwise (·< ·)->∃r:bQ,Cpt l r/\∃q,cq Lm [iI (k:Int),aM (ints l)] (q,[aM (ints r)]):=by
 intro m;have Hx:=hl;simp only [mx]at hl
 induction m with
 |zero=>
  intro k hk U hp;rw [FE (by omega)]at hp;exact⟨l,⟨ah2 hp,λx=>Iff.rfl⟩,1,bF aeo (az (Jn) aH)⟩
 |succ m ih=>
  intro k hk U hp;have tV:k<l.length:=by omega
  have Vj:k- 1<l.length:=by omega
  have OU:bH ((k:Int)- 1)=((k- 1:Nat):Int):=Dz;have EY:ib (k:Int) (ints l).length =true:=by rw [fY];exact FX tV
  have apw:ib ((k- 1:Nat):Int) (ints l).length =true:=by rw [fY];exact FX Vj
  have hle:l[k- 1]<=l[k]:=Mq.1 hs _ _ Vj tV (by omega);have od:ln (ints l)=(l.length:Int):=by rw [fM]
  have t0:decide ((k:Int)<(l.length:Int))=true:=fB;have C:∀r:UO,_->cq Lm [iI (k:Int),aM (ints l)] r:=λr h=>by
   refine bF aeo ?_;rw [OU,od];refine bE t0 (aA EY (aA (toNl EY) (aA apw (aA (toNl apw) ?_))));rw [pZ,pZ,gi tV,gi Vj];exact h
  by_cases he:l[k]=l[k- 1]
  ·have hR:(l.take k).length =k:=by rw [sB];omega
   obtain⟨X',R',q1,q2,q3,q4,q5⟩:=aLs Hx hs tV (m) 1 (by omega) (by omega) l (l.take k) rfl (λj _ _=>rfl) (by rw [hR]) (by rw [hR];omega) hp λx=>by
    rw [FA,dy tV,mE];constructor
    ·exact λh=> .inl h
    ·rintro(h|h)
     ·exact h
     ·simp at h;subst h;rw [he];have:l[k- 1]=(l.take k)[k- 1]'(SR):=by rw [Rs]
      rw [this];exact ei _
   rw [hR]at q5;refine⟨R',q4,0,C _ (bE (Bn) (aA (fB) ?_))⟩;rw [show(ints l).length - k=l.length- k by rw [fY]];refine ah q5.diag ?_;have hc:te [iI 0] (ints X') R'.length ((ints X').length - R'.length)=ints R'++List.replicate ((ints X').length - R'.length) [iI 0]:=by
    unfold te w5;rw [show(ints X').take R'.length=ints R' by
     show(X'.map _).take _=_;rw [<-Zp,q2]]
    rw [ZG (by rw [wD,fY,q1];omega),rV]
   have fh:(te [iI 0] (ints X') R'.length ((ints X').length - R'.length)).length =l.length:=by
    rw [hc,cw,wD,fY,fY,q1];omega
   have l1:ln (ints X')=(l.length:Int):=by rw [fM,q1]
   have l2:ln (te [iI 0] (ints X') R'.length ((ints X').length - R'.length))=(l.length:Int):=by show((_:Nat):Int)=_;rw [fh]
   show E (λN _=>bf (decide (0<=(R'.length:Int))&&decide ((R'.length:Int)<=ln (ints X'))&&decide (ln (ints X')<=ln (ints X')))<|bf (decide (0<=(R'.length:Int))&&decide ((R'.length:Int)<=ln (te ([iI 0]) (ints X') (((R'.length:Int)).toNat) (((ints X').length)-(((R'.length:Int)).toNat))))&&decide (ln (te ([iI 0]) (ints X') (((R'.length:Int)).toNat) (((ints X').length)-(((R'.length:Int)).toNat)))<=ln (te ([iI 0]) (ints X') (((R'.length:Int)).toNat) (((ints X').length)-(((R'.length:Int)).toNat)))))<|some (0,[aM ((te ([iI 0]) (ints X') (((R'.length:Int)).toNat) (((ints X').length)-(((R'.length:Int)).toNat))).take (((R'.length:Int)).toNat))])) _;rw [pZ,l1,l2];refine aA (fB) (aA (fB) (aq ?_));rw [hc,ZH (by simp),FE (by simp)]
  ·have ER:(l.take (k+1)).Pairwise (·< ·):=by
    rw [FA,dy tV];show(l.take k++[l[k]]).Pairwise _;rw [List.pairwise_append];refine⟨hp,ahC _ _,λa ha b hb=> ?_⟩;simp at hb;subst hb;obtain⟨i,hi,rfl⟩:=IH ha;rw [sB]at hi;rw [Rs];have:l[i]<=l[k- 1]:=by
     by_cases h:i=k- 1
     ·subst h;exact A6 _
     ·exact Mq.1 hs _ _ (by omega) Vj (by omega)
    omega
   obtain⟨r,r1,q,r2⟩:=ih (k+1) (by omega) (by omega) ER;refine⟨r,r1,q,C _ (az (Bn) ?_)⟩;rw [pE (by omega) (by omega)];exact r2
def aLo(hl:l.length<=mx)(hs:l.Pairwise (·<= ·)):∃r:bQ,Cpt l r/\Ev We [aM (ints l)] (0,[aM (ints r)]):=by
 by_cases h2:l.length<2
 ·refine⟨l,⟨?_,λx=>Iff.rfl⟩,bh aez (bE (Jn) aH)⟩
  match l,h2 with
  | [],_=>exact Mv
  | [x],_=>simp
  |_::_::_,h=>exact yC
 ·obtain⟨r,r1,q,r2⟩:=aLr hl hs (l.length- 1) 1 (by omega) (by omega) (by
   match l,h2 with
   |x::xs,_=>simp
   | [],h=>simp at h)
  exact⟨r,r1,bh aez (az (Jn) (ah r2.diag (aW (λ_=>aH) λ_=>aH)))⟩
end
section
variable{i:Int}{x:SO}
abbrev zE(p:Bool)(k:Nat):AV:= J [aJ p,bq,.au k,iI 0,iI 0]
abbrev G8(a b:SO):AV:= gr [cA a,cA b]
abbrev s6(l:bQ):AV:= aM (ints l)
variable {a b:SO}
def eiJ:cW XS [J (cA a),J (cA b),zE false 3,s6 []]
 (bif !a.ptr&& !b.ptr then(1,[fF,J (cA a),J (cA b),J [bq,bq,.au 3,iI (yS a.lo b.lo),iI (imax a.hi b.hi)],s6 []])else(0,[J (cA a),J (cA b),zE false 3,s6 []])):=by
 refine cL awH ?_;cases ha:a.ptr with
 |true=>exact az (by show(!a.ptr)=false;rw [ha];rfl) aH
 |false=>
  refine bE (by show(!a.ptr)=true;rw [ha];rfl) ?_;cases hb:b.ptr with
  |true=>exact az (by show(!b.ptr)=false;rw [hb];rfl) aH
  |false=>exact bE (by show(!b.ptr)=true;rw [hb];rfl) aH
def aEF(acc:bQ):cq yn [iI 2,iI 2,zE false 3,zE true 4,G8 a b,s6 [],s6 acc] (1,[zE false 3,zE true 4,G8 a b,s6 [],s6 acc]):=
 bF Xg (av aH)
def anp(hi:0<=i)(h2:i<2)(hx:gA [cA a,cA b] i.toNat=cA x)(hp:x.ptr=false)(hn:x.null=false)(acc:bQ):
 cq yn [iI 2,iI i,zE false 3,zE true 4,G8 a b,s6 [],s6 acc] (0,[bq,J [bq,bq,.au 3,iI 0,iI 0],zE true 4,G8 a b,s6 [],s6 acc]):=by
 have EY:ib i [cA a,cA b].length =true:=oX.2 ⟨hi,uq⟩;refine bF Xg (bE (uq) (aA EY (aA (toNl EY) ?_)));rw [hx];exact bE (by show(!x.ptr)=true;rw [hp];rfl) (bE (by show(!x.null)=true;rw [hn];rfl) aH)
def abw{j:Int}(hi:0<=i)(h2:i<2)(hj:bH (i+1)=j)(hx:gA [cA a,cA b] i.toNat=cA x)(hp:(x.ptr||x.null)=true){acc:bQ}(hl:acc.length+x.set.length<=mx){r:UO}
 (h:cq yn [iI 2,iI j,zE false 3,zE true 4,G8 a b,s6 [],s6 (acc++bif x.ptr then x.set else [])] r):
 cq yn [iI 2,iI i,zE false 3,zE true 4,G8 a b,s6 [],s6 acc] r:=by
 have EY:ib i [cA a,cA b].length =true:=oX.2 ⟨hi,uq⟩;refine bF Xg (bE (uq) (aA EY (aA (toNl EY) ?_)));rw [hx,hj];have hs:ints acc++gR (cA x) 2=ints (acc++x.set):=(tj).symm;cases hq:x.ptr with
 |true=>
  rw [hq]at h;refine az (by show(!x.ptr)=false;rw [hq];rfl) (bE hq (aA ?_ ?_))
  ·show decide (((ints acc).length +(ints x.set).length)*8<=_)=true;rw [fY,fY];simp only [mx]at hl;simp;omega
  ·rw [hs];exact h
 |false=>
  rw [hq]at h hp;refine bE (by show(!x.ptr)=true;rw [hq];rfl) (az (by show(!x.null)=false;simp at hp;rw [hp];rfl) (az hq ?_));rw [show acc++(bif false then x.set else [])=acc from rV _]at h;exact h
def aEE:pM:=by
 intro n hn a b ha hb;have la:=ha.len;have lb:=hb.len;have m4:(4096:Nat)<=mx:=SJ;have C:∀r:UO,_->Ev L2 [J (cA a),J (cA b)] r:=λr h=>bh axR (ah (eiJ (a:=a) (b:=b)) h);cases hz:(!a.ptr&& !b.ptr)with
 |true=>
  rw [hz]at C;have U:a.ptr=false:=by simp at hz;exact hz.1
  have h2:b.ptr=false:=by simp at hz;exact hz.2
  have he:D8 a b=true:=by unfold D8;rw [hz];rfl
  refine⟨⟨false,false,[],yS a.lo b.lo,imax a.hi b.hi⟩,C _ (av (aq ?_)),λ_=>⟨xH rfl,?_⟩⟩
  ·exact Bk
  ·exact⟨MU,rfl,MU,MU,λx=>by simp [U,h2]⟩
 |false=>
  rw [hz]at C;have he:D8 a b=((a.ptr||a.null)&&(b.ptr||b.null)):=by unfold D8;rw [hz];rfl
  have hpp:(a.ptr||b.ptr)=true:=by cases h:a.ptr<;>cases h':b.ptr<;>simp_all
  have C2:∀(o r:UO),cq yn [iI 2,iI 0,zE false 3,zE true 4,G8 a b,s6 [],s6 []] o->_->Ev L2 [J (cA a),J (cA b)] r:=λo r h h'=>C r (bp (ah h.diag h'));cases hA:(a.ptr||a.null)with
  |false=>
   have U:a.ptr=false:=by simp at hA;exact hA.1
   have h2:a.null=false:=by simp at hA;exact hA.2
   refine⟨uH,C2 _ _ (anp (i:=0) (by omega) (by omega) rfl U h2 []) (bp (aq ?_)),λh=> ?_⟩
   ·rw [he,hA];rfl
   ·rw [he,hA]at h;cases h
  |true=>
   have lC:(bif a.ptr then a.set else []).length <=n:=by cases a.ptr<;>simp;omega
   cases hB:(b.ptr||b.null)with
   |false=>
    have U:b.ptr=false:=by simp at hB;exact hB.1
    have h2:b.null=false:=by simp at hB;exact hB.2
    refine⟨uH,C2 _ _ (abw (i:=0) (j:=1) (by omega) (by omega) rfl rfl hA (fB) (anp (i:=1) (by omega) (by omega) rfl U h2 _)) (bp (aq ?_)),λh=> ?_⟩
    ·rw [he,hA,hB];rfl
    ·rw [he,hA,hB]at h;cases h
   |true=>
    obtain⟨X,hX⟩:∃X,X=([]++(bif a.ptr then a.set else []))++(bif b.ptr then b.set else []):=⟨_,rfl⟩;have Ck:(bif b.ptr then b.set else []).length <=n:=by cases b.ptr<;>simp;omega
    have lX:X.length<=mx:=by rw [hX];simp only [nO,cw];omega
    have lp:=abw (a:=a) (b:=b) (i:=0) (j:=1) (by omega) (by omega) rfl rfl hA (acc:=[]) (fB) (abw (i:=1) (j:=2) (by omega) (by omega) rfl rfl hB (by simp only [nO];omega) (aEF _));rw [<-hX]at lp;obtain⟨r,r1,r2⟩:=aLo (l:=qa X) (by rw [(agU X).length_eq];exact lX) (ax8 X);have hm:∀x,x∈r ↔ (a.ptr=true/\x∈a.set)∨(b.ptr=true/\x∈b.set):=λx=>by
     rw [r1.2,(agU X).mem_iff,hX];cases a.ptr<;>cases b.ptr<;>simp
    have hE:UN a b ⟨true,false,r,0,0⟩:=⟨hpp.symm,rfl,by rw [hpp];rfl,by rw [hpp];rfl,hm⟩;refine⟨⟨true,false,r,0,0⟩,C2 _ _ lp (av (ah (aFb lX) (ah r2 (aq ?_)))),λ_=>⟨⟨r1.1,hE.n7 ha hb⟩,hE⟩⟩;rw [he,hA,hB];rfl
end
end Go.Proofs.B.C
namespace Go.aj
def abL{p:Prop}(h:p:=by
 simp only [jG,fI,mw,hn,cw,fk,gD,mY,wB];simp only [D0]at*;omega):p:=h
def JA{p:Prop}(h:p:=by simp only [fk]at h;omega):p:=h
def akj{p:Prop}(h:p:=by
 simp only [cw,fk,gD,mY,wB];omega):p:=h
end Go.aj
namespace Go.Proofs.B
open Go Go.aj T C
section
variable{p:PG}
def ZZ{i:Nat}(h:i<=mx):(Lib.itoa (i:Int)).length <=20:=kr (Si h)
def aiM:∀{l:List OB} {i:Nat},i+l.length<=mx->(∀o∈l,VF o)->(lr i l).length <=fI (l.map cg)*D0
 | [],_,_,_=>qy _
 |o::l,i,h,hr=>by
  have ih:=aiM (l:=l) (i:=i+1) (JA) λo ho=>hr o (fJ _ ho);obtain⟨r1,r2,r3,r4,_⟩:=hr o (ez ..);have a0:=ZZ (i:=i) (JA);have a1:=kr r1;have a2:=kr r2;have a3:=kr r3;have a4:=Bi r4;have hn:dW (cg o)=5+o.set.length:=by simp only [cg,dW,rG,I5];omega
  simp only [jG,fI,mw,hn];simp only [D0]at*;cases hp:o.ptr with
  |true=>
   rw [Tp hp,cw,yw];exact akj
  |false=>
   rw [Tq hp,cw,yw];exact akj
def ail{z:Int->Int}:∀{l:List CE},(∀e∈l,IE e)->(sb z l).length <=fI (l.map aZ)*D0
 | [],_=>qy _
 |e::l,h=>by
  have ih:=ail (z:=z) (l:=l) λo ho=>h o (fJ _ ho);have U:=Jo z e (h e (ez ..));rw [aby,cw,yw];simp only [jG,fI,mw,cw,fk,gD,mY,wB];simp only [D0]at*;omega
def aiI{z:Int->Int}:∀{l:List PR} {i:Nat},i+l.length<=mx->(∀q∈l,cQ q.ceil=true/\(∀n∈q.kV,cQ n=true)/\∀e∈q.bars,IE e)->(pj z i l).length <=fI (l.map gk)*D0
 | [],_,_,_=>qy _
 |q::l,i,h,hr=>by
  have ih:=aiI (z:=z) (l:=l) (i:=i+1) (JA) λo ho=>hr o (fJ _ ho);obtain⟨r1,r2,r3⟩:=hr q (ez ..);have a0:=ZZ (i:=i) (JA);have a1:=kr r1;have a2:=Bi r2;have a3:=ail (z:=z) r3;have hn:dW (gk q)=3+q.kV.length+fI (q.bars.map aZ):=by simp only [gk,dW,rG,I5];omega
  rw [abG,cw,cw,yw];exact abL
def ai3:∀{l:List EN},(∀e∈l,(∀n∈e.ins,cQ n=true)/\∀n∈e.outs,cQ n=true)->(tE l).length <=fI (l.map iH)*D0
 | [],_=>qy _
 |e::l,h=>by
  have ih:=ai3 (l:=l) λo ho=>h o (fJ _ ho);obtain⟨U,h2⟩:=h e (ez ..);have a1:=Bi U;have a2:=Bi h2;have hn:dW (iH e)=2+e.ins.length+e.outs.length:=by simp only [iH,dW,rG,I5];omega
  rw [aca,cw,yw];exact abL
def ait{z:Int->Int}:∀{l:List TK} {i:Nat},i+l.length<=mx->fI (l.map dv)<=mx->(∀t∈l,cQ t.prio=true/\cQ t.dead=true/\(∀e∈t.aU,(∀n∈e.ins,cQ n=true)/\∀n∈e.outs,cQ n=true)/\IS t.body)->(pN z i l).length <=fI (l.map dv)*D0
 | [],_,_,_,_=>qy _
 |t::l,i,h,hm,hr=>by
  have hn:dW (dv t)=3+fI (t.aU.map iH)+dW (encS t.body):=by simp only [dv,dW,rG,Se];omega
  have ih:=ait (z:=z) (l:=l) (i:=i+1) (JA) (by simp only [jG,fI]at hm;omega) λo ho=>hr o (fJ _ ho);obtain⟨r1,r2,r3,r4⟩:=hr t (ez ..);have a0:=ZZ (i:=i) (JA);have a1:=kr r1;have a2:=kr r2;have a3:=ai3 r3;have a4:=aCm z t.body r4 1 (by simp only [jG,fI,hn,mx]at hm;simp only [M0];omega);rw [abA,cw,cw,cw,yw];exact abL
def aKa(p:PG):dW (km p)=4+fI (p.aR.map cg)+fI (p.tasks.map dv)+fI (p.c5.map gk):=by simp only [km,dW,rG];omega
def aCA(hp:p.Ok)(hi:IG p)(hn:dW (km p)<=mx):(px p).length <=mT:=by
 rw [aKa]at hn;have U:=aiM (l:=p.aR) (i:=0) (by have:=hp.aR;omega) λo ho=>akM;have h2:=aiI (z:=zO p.aR) (l:=p.c5) (i:=0) (by have:=hp.c5;omega) hi.q;have h3:=ait (z:=zO p.aR) (l:=p.tasks) (i:=0) (by have:=hp.tasks;omega) (by omega) hi.t;have h4:=kr hi.x;unfold px;simp only [cw,fk];simp only [D0,mx,mT]at*;omega
def abB(hp:p.Ok)(hi:IG p)(hn:dW (km p)<=mx):(∃b,Ev yr [aG p] (0,[aJ b])/\((b=true/\MP p/\Ev CV [aG p] (0,[.str (bs (px p)),iI 0]))∨(b=false/\Ev CV [aG p] (0,[.str ByteArray.empty,iI 2])))):=by
 obtain⟨b,U,h2⟩:=aKg hp aEE;refine⟨b,U,?_⟩;cases b with
 |true=>
  have h:=h2 rfl;have hl:0<p.aR.length:=by
   have U:=(Z1 h.hd).1;exact amA
  exact .inl ⟨rfl,h,aDr U hl (rg_of hp h hi) (aCA hp hi hn)⟩
 |false=>
  refine .inr ⟨rfl,bh agM ?_⟩;rw [anV];exact ah U (bp aH)
end
open Go Go.aj
def aCI(s:CS):s.Ok->∃n:Int,Ev Mg [J (encS s)] (0,[iI n]):=by
 induction s using CS.ind with
 |h s ih=>
  intro hs;have hk:=C.ah6 hs;have key:∀m:Int,∃n:Int,cq LU [iI m,iI ((0:Nat):Int),cX (s.kids.map encS)] (0,[iI n,cX (s.kids.map encS)]):=by
   refine ku (P:=λi=>∀m:Int,∃n:Int,cq LU [iI m,iI (i:Int),cX (s.kids.map encS)] (0,[iI n,cX (s.kids.map encS)])) (m:=s.kids.length) ?_ ?_
   ·exact λm=>⟨m,bF afv (az eo aH)⟩
   ·intro i hi h m;obtain⟨n1,U⟩:=ih _ (ei hi) (hs.kO _ (ei hi));obtain⟨n2,h2⟩:=h (bH (m+n1));refine⟨n2,bF afv (bE (dz hi) (aA (cb hi) (aA ?_ ?_)))⟩
    ·rw [fY];exact vq (by omega)
    ·rw [dk hi,Zq (by omega),gE];exact ah U h2
  obtain⟨n,h⟩:=key 1;refine⟨n,bh ayQ ?_⟩;rw [gE];exact ah (C.aKt hs) (ah (E.diag h) aH)
def alR{p:PG}(hp:p.Ok):∃b:Bool,Ev Rb [jw p] (0,[aJ b]):=by
 have key:∀m:Int,(∃b:Bool,cq zy [iI m,iI ((0:Nat):Int),jw p] (0,[aJ b,jw p]))∨cq zy [iI m,iI ((0:Nat):Int),jw p] (1,[jw p]):=by
  refine ku (P:=λi=>∀m:Int,(∃b:Bool,cq zy [iI m,iI (i:Int),jw p] (0,[aJ b,jw p]))∨cq zy [iI m,iI (i:Int),jw p] (1,[jw p])) (m:=p.tasks.length) ?_ ?_
  ·exact λm=> .inr (bF Qr (az eo aH))
  ·intro i hi h m;obtain⟨n1,U⟩:=aCI _ (hp.task _ (ei hi)).body;have go:∀{r},(cq zy [iI (bH (m+n1)),iI ((i+1:Nat):Int),jw p] r)->(∃b:Bool,cq zy [iI m,iI (i:Int),jw p] (0,[aJ b,jw p]))∨cq zy [iI m,iI (i:Int),jw p] r:=by
    intro r hr;have hN:Ev Mg [J (bg fU 2 (gA (gR (km p) 2) ((i:Int).toNat)))] (0,[iI n1]):=by rw [KW,dk hi,GY];exact U
    by_cases c1:decide ((9000:Int)<bH (m+n1))=true
    ·exact .inl ⟨true,bF Qr (bE (dz hi) (aA (cb hi) (ah hN (bE c1 aH))))⟩
    ·have c1:=Fy.2 c1
     by_cases c2:decide ((20:Int)<ln (gR (gA (gR (km p) 2) ((i:Int).toNat)) 1))=true
     ·exact .inl ⟨true,bF Qr (bE (dz hi) (aA (cb hi) (ah hN (az c1 (aA (cb hi) (bE c2 aH))))))⟩
     ·rw [<-ix hi hp.tasks]at hr;exact .inr (bF Qr (bE (dz hi) (aA (cb hi) (ah hN (az c1 (aA (cb hi) (az (Fy.2 c2) hr)))))))
   rcases h (bH (m+n1))with⟨b,hb⟩|hb
   ·rcases go hb with h|h
    ·exact .inl h
    ·exact .inl ⟨b,h⟩
   ·exact go hb
 have h6:cW QW [jw p] (1,[fF,jw p])∨cW QW [jw p] (0,[jw p]):=by
  by_cases c1:decide ((200:Int)<ln (p.aR.map cg))=true
  ·exact .inl (cL QG (bE c1 aH))
  ·have c1:=Fy.2 c1
   by_cases c2:decide ((40:Int)<ln (p.tasks.map dv))=true
   ·exact .inl (cL QG (az c1 (bE c2 aH)))
   ·have c2:=Fy.2 c2
    by_cases c3:decide ((40:Int)<ln (p.c5.map gk))=true
    ·exact .inl (cL QG (az c1 (az c2 (bE c3 aH))))
    ·exact .inr (cL QG (az c1 (az c2 (az (Fy.2 c3) aH))))
 rcases h6 with h6|h6
 ·exact⟨true,bh Yq (ah h6 (av aH))⟩
 ·rcases key 0 with⟨b,h⟩|h
  ·exact⟨b,bh Yq (ah h6 (bp (ah (E.diag h) (bp aH))))⟩
  ·exact⟨false,bh Yq (ah h6 (bp (ah (E.diag h) (av aH))))⟩
end Go.Proofs.B
namespace Go.Proofs.B.X
open Go Go.aj T C
set_option maxRecDepth 1000000
def aLg{e:CE}(h:e.L=[]):e.Ok:= .mk e (by rw [h];simp) λy hy=>by rw [h]at hy;cases hy
def sok:CE.Ok hS:= .mk _ (bM) λy hy=>by
 simp only [CE.L,fV,pY,pX]at hy;rcases hy with rfl|rfl<;>exact aLg rfl
def eok:CE.Ok hE:= .mk _ (bM) λy hy=>by
 simp only [CE.L,fV,pY,pX]at hy;subst hy;exact sok
def bB:(hP hE).Ok :=by
 refine⟨bM,λo ho=> ?_,bM,λt ht=> ?_,bM,λ_ h=>(aD)⟩
 ·simp only [fV,pY,pX]at ho;subst ho;exact qy _
 ·simp only [fV,pY,pX]at ht;subst ht;refine⟨bM,λ_ h=>(aD),.mk _ ⟨⟨bM,λe he=> ?_⟩,⟨bM,λ_ h=>(aD)⟩,⟨bM,λq hq=> ?_⟩,⟨bM,λ_ h=>(aD)⟩,bM,bM⟩ (bM) (bM) (bM) (bM) (λ_ h=>(aD)) (λ_ h=>(aD)) λ_ h=>(aD)⟩
  ·simp only [CS.f,fV,pY,pX]at he;subst he;exact eok
  ·simp only [CS.f,fV,pY,pX]at hq;subst hq;exact⟨bM,λ_ h=>(aD)⟩
def hig:IG (hP hE):=by
 have e0:∀{e:CE},cQ e.N=true->cQ e.O=true->cQ e.off=true->cQ e.len=true->cQ e.lo=true->cQ e.hi=true->e.L=[]->IE e:=λ{e} U h2 h3 h4 h5 h6 h=> .mk e U h2 h3 h4 h5 h6 λy hy=>by rw [h]at hy;cases hy
 refine⟨λo ho=> ?_,rfl,λt ht=> ?_,λq hq=>(rX)⟩
 ·simp only [fV,pY,pX]at ho;subst ho;exact⟨rfl,rfl,rfl,λ_ h=>(aD)⟩
 ·simp only [fV,pY,pX]at ht;subst ht;refine⟨rfl,rfl,λ_ h=>(aD),.mk _ ⟨rfl,rfl,rfl,rfl,rfl,λ_ h=>(aD),λe he=> ?_,λ_ h=>(aD),λq hq=> ?_,λ_ h=>(aD)⟩ (λ_ h=>(aD)) (λ_ h=>(aD)) λ_ h=>(aD)⟩
  ·simp only [CS.f,fV,pY,pX]at he;subst he;refine .mk _ rfl rfl rfl rfl rfl rfl λy hy=> ?_;simp only [CE.L,fV,pY,pX]at hy;subst hy;refine .mk _ rfl rfl rfl rfl rfl rfl λy hy=> ?_;simp only [CE.L,fV,pY,pX]at hy;rcases hy with rfl|rfl<;>exact e0 rfl rfl rfl rfl rfl rfl rfl
  ·simp only [CS.f,fV,pY,pX]at hq;subst hq;exact⟨rfl,rfl,rfl,λ_ h=>(aD)⟩
def hTx:Ev CV [J (km (hP hE))] (0,[.str (bs (px (hP hE))),iI 0]):=by
 obtain⟨b,U,h2⟩:=abB bB hig (bM);rcases h2 with⟨rfl,_,h⟩|⟨rfl,_⟩
 ·exact h
 ·cases E.uniq U hM1
def hEq:HK (bs (px (hP hE))) ⟨#[111,98,106,32,48,32,49,32,48,32,57,10,101,120,99,115,32,52,10,116,97,115,107,32,48,32,49,32,48,10,32,32,111,48,32,58,61,32,91,48,46,46,57,32,40,111,48,32,43,32,49,41,93,10]⟩=true:=pK
def NB:Ev Fx [] (0,[fF]):=
 bh azo (ah aK2 (ah hTx (ah adf (ah ade (ah hRg (ah hM1 (bp (ah aK3 (ah hM0 (bp (bp (bE hEq (bp (bp (bp (ah hAl (bp (aA rfl (ah hNd aH)))))))))))))))))))
end Go.Proofs.B.X
namespace Go.aj
def ajN{p:Prop}(h:p:=by exact ah t1 (ah t2 (av (ah X.NB aH)))):p:=h
end Go.aj
namespace Go.aj
def Rq:=@decide_eq_false
end Go.aj
namespace Go.Proofs.B
open Go Go.aj T C
section
variable{s t:CS}{i:Nat}
theorem bb{a:Bool}:(!(a==a))=false:=by cases a<;>rfl
theorem aC8{a b:List UInt8}:HK (bs a) (bs b)=dq (a=b):=by
 by_cases h:a=b
 ·rw [yT h];show AG a b=true;rw [Nf,h];simp
 ·rw [yU h];show AG a b=false;rw [Nf];simpa using h
theorem aB2{α:Type}{a b:α}:dq (b=a)=dq (a=b):=by
 by_cases h:a=b
 ·rw [yT h,yT h.symm]
 ·rw [yU h,yU λx=>h x.symm]
theorem DE.ev{v:Nat}{l:ak}{P:Prop}(h:DV v l P):Ev v l (0,[aJ (dq P)]):=by
 by_cases p:P
 ·rw [yT p];exact h.t p
 ·rw [yU p];exact h.f p
section
variable {p q:PG} (hp:p.Ok) (hq:q.Ok)
abbrev gT(p q:PG):UO:=(1,[fF,aG p,aG q])
include hp hq in
theorem l6:cW Qu [aG p,aG q] (gT p q)∨cW Qu [aG p,aG q] (0,[aG p,aG q]):=by
 obtain⟨b,hb⟩:=alR hp;obtain⟨c,hc⟩:=alR hq;cases b with
 |true=>exact .inl (cL Xm (ah hb (bp (ah X.NB aH))))
 |false=>cases c with
  |true=>exact .inl (cL Xm (ah hb (av (ah hc (bp (ah X.NB aH))))))
  |false=>exact .inr (cL Xm (ah hb (av (ah hc (av aH)))))
include hp hq in
theorem l30:cW Xs [aJ (dq (p=q)),aG p,aG q] (0,[aG p,aG q]):=by
 refine cL avj (ah (abE hp).ev (az bb (ah (abE hq).ev (az ?_ (ah (abE hp).ev (az ?_ aH))))))
 ·show(!(dq (q=p)==dq (p=q)))=false;rw [aB2];exact bb
 ·show(!dq (p=p))=false;rw [yT rfl];rfl
theorem adj(s:CS):gR (encS s) 12=s.f.E.map aZ:=M6
abbrev v7(s:CS):AV:= J (encS s)
theorem apf:cW Wz [iI (i:Int),v7 s,v7 t] (bif decide (i<s.f.E.length)&&decide (i<t.f.E.length)then(0,[v7 s,v7 t])else(1,[v7 s,v7 t])):=by
 refine cL as3 ?_;rw [gE,gE];have e1:decide ((i:Int)<ln (gR (encS s) 12))=decide (i<s.f.E.length):=by rw [adj];simp [ln]
 have e2:decide ((i:Int)<ln (gR (encS t) 12))=decide (i<t.f.E.length):=by rw [adj];simp [ln]
 rw [e1,e2];cases decide (i<s.f.E.length)with
 |false=>exact qU
 |true=>cases decide (i<t.f.E.length)with
  |false=>exact bp (av aH)
  |true=>exact bp (bp aH)
theorem l64(hs:s.Ok):cq Lx [iI ((0:Nat):Int),v7 s,v7 t] (1,[v7 s,v7 t]):=by
 refine ku (P:=λi=>cq Lx [iI (i:Int),v7 s,v7 t] (1,[v7 s,v7 t])) (m:=s.f.E.length) ?_ ?_
 ·refine bF aeM ?_;rw [gE,gE];refine ah apf ?_;rw [Rq (Nat.lt_irrefl _)];refine av (aq ?_);simp only [gC,IK,Mw,AV.cells,yu,cf,gE]
 ·intro i hi ih;refine bF aeM ?_;rw [gE,gE];refine ah apf ?_;rw [vq hi,zD]
  by_cases h2:i<t.f.E.length
  ·rw [vq h2];simp only [bU,gC,IK,Mw,AV.cells,gE,adj];refine bp (aA (cb hi) (aA (cb h2) ?_));rw [dk hi,dk h2,iK,iK,ix hi hs.fO.E.1];have ho:=hs.fO.E.2 _ (ei hi);exact ah (ab7 _ ho _).ev (aA (cb hi) (aA (cb h2) (ah (ab6 _ ho _).ev (az bb ih))))
  ·rw [Rq h2];refine av (aq ?_);simp only [gC,IK,Mw,AV.cells,cf,gE]
theorem ana:cW W9 [iI (i:Int),aG p,aG q] (bif decide (i<p.tasks.length)&&decide (i<q.tasks.length)then(0,[aG p,aG q])else(1,[aG p,aG q])):=by
 refine cL aud ?_;have e1:decide ((i:Int)<ln (gR (km p) 2))=decide (i<p.tasks.length):=by rw [KW];simp [ln]
 have e2:decide ((i:Int)<ln (gR (km q) 2))=decide (i<q.tasks.length):=by rw [KW];simp [ln]
 rw [e1,e2];cases decide (i<p.tasks.length)with
 |false=>exact qU
 |true=>cases decide (i<q.tasks.length)with
  |false=>exact bp (av aH)
  |true=>exact bp (bp aH)
include hp in
theorem aKm:cq LH [iI ((0:Nat):Int),aG p,aG q] (1,[aG p,aG q]):=by
 refine ku (P:=λi=>cq LH [iI (i:Int),aG p,aG q] (1,[aG p,aG q])) (m:=p.tasks.length) ?_ ?_
 ·refine bF aeX (ah ana ?_);rw [Rq (Nat.lt_irrefl _)];exact qU
 ·intro i hi ih;refine bF aeX (ah ana ?_);rw [vq hi,zD]
  by_cases h2:i<q.tasks.length
  ·rw [vq h2];simp only [bU,gC,IK,Mw,AV.cells,uG,KW];refine bp (aA (cb hi) (aA (cb h2) ?_));rw [dk hi,dk h2,GY,GY,ix hi hp.tasks];have ho:=(hp.task _ (ei hi)).body;exact ah (amm _ ho _).ev (ah (aml _ ho _).ev (az bb (ah (E.diag (l64 ho)) (av ih))))
  ·rw [Rq h2];exact qU
include hp in
theorem l62:cW Xr [aG p,aG q] (0,[aG p,aG q]):=
 cL avi (ah (E.diag (aKm hp)) (av aH))
end
theorem csE{p q:PG}(hp:p.Ok)(hq:q.Ok)(ip:IG p)(iq:IG q)(np:dW (km p)<=mx)(nq:dW (km q)<=mx):Ev XV [aG p,aG q] (0,[fF]):=by
 refine bh axe ?_;rw [uG,uG];rcases l6 hp hq with h6|h6
 ·exact ah h6 (av aH)
 refine ah h6 (bp (ah (aDL hp).ev (ah (l30 hp hq) (bp (ah (l62 hp) (bp ?_))))));obtain⟨b,_,U⟩:=abB hp ip np;obtain⟨c,_,h2⟩:=abB hq iq nq;rcases U with⟨_,m1,t1⟩|⟨_,t1⟩
 ·rcases h2 with⟨_,m2,t2⟩|⟨_,t2⟩
  ·refine ah t1 (ah t2 (bp (bp (az ?_ (ah X.NB aH)))));have e:dq (px p=px q)=dq (p=q):=by
    by_cases h:p=q
    ·rw [yT h,yT (by rw [h])]
    ·rw [yU h,yU λx=>h (aCB (ami hp m1) (ami hq m2) x)]
   show(!(HK (bs (px p)) (bs (px q))==dq (p=q)))=false;rw [aC8,e];exact bb
  ·exact ah t1 (ah t2 (bp (av (ah X.NB aH))))
 ·rcases h2 with⟨_,_,t2⟩|⟨_,t2⟩
  ·exact ajN
  ·exact ajN
end
end Go.Proofs.B
namespace Go.aj
def zV{p:Prop}(h:p:=by exact⟨l,U,by omega,h3⟩):p:=h
def ale{p:Prop}(h:p:=by
 cases a<;>simp only [kF,nP]at h
 have e:=eq_of_beq h;subst e;exact⟨_,rfl⟩):p:=h
end Go.aj
namespace Go.Proofs.B
open Go Go.aj C
section
variable{a x:AV}{t:Nat}{row:Row}{xs:aY}
def wf_u8{v:Int}(h:(Lit.int .u8 v).wf =true):0<=v/\v<=255:=by
 simp only [Lit.wf,IntKind.min,IntKind.max,IntKind.signed,IntKind.bits,bw,gG,nP,lI]at h;omega
def fZ{k:Kind}{ks:er}(h:cZ (k::ks) row=true):∃a r,row=a::r/\kF k a=true/\cZ ks r=true:=by
 match row,h with
 | [],h=>exact FP
 |a::r,h=>
  simp only [cZ,bw]at h;exact⟨a,r,rfl,h.1,h.2⟩
def mG{k:IntKind}(h:kF (.int k) a=true):∃n,a= .int k n:=ale
def I2(h:kF .bool a=true):∃n,a= aJ n:=by
 cases a<;>simp only [kF,nP]at h
 exact⟨_,rfl⟩
def pD{t:TypeId}(h:kF (.slice t) a=true):∃n,a= .ae t n:=ale
def A2:∀{a b:er} {row:Row},cZ (a++b) row=true->∃r s,row=r++s/\cZ a r=true/\cZ b s=true
 | [],_,row,h=>⟨[],row,rfl,rfl,h⟩
 |k::a,b,row,h=>by
  obtain⟨x,r,rfl,U,h2⟩:=fZ h;obtain⟨r1,r2,rfl,h3,h4⟩:=A2 h2;exact⟨x::r1,r2,rfl,by simp [cZ,U,h3],h4⟩
def wx(h:cZ [] row=true):row=[]:=by cases row<;>simp_all [cZ]
def lift{α:Type}{enc:α->Row}{P:α->Prop}:∀{xs:aY},(∀r∈xs,∃a,r=enc a/\P a)->∃l:List α,xs=l.map enc/\l.length=xs.length/\∀a∈l,P a
 | [],_=>⟨[],rfl,rfl,λa h=>aD⟩
 |r::rs,h=>by
  obtain⟨a,rfl,U⟩:=h r (by simp);obtain⟨l,rfl,h2,h3⟩:=lift (xs:=rs) λr hr=>h r (by simp [hr]);exact⟨a::l,rfl,by simp,λy hy=>by
   rcases fV.1 hy with rfl|hy
   ·exact U
   ·exact h3 y hy⟩
structure Dc(t:Nat)(xs:aY):Prop where
 i:t=wI->∃l:bQ,xs=ints l/\l.length<=mx
 e:t=Fm->∃l,xs=l.map aZ/\Ea l
 p:t=wc->∃l,xs=l.map cN/\On l
 s:t=ud->∃l:List CS,xs=l.map encS/\l.length<=mx/\∀x∈l,x.Ok
 d:t=Fo->∃l:List CD,xs=l.map fC/\l.length<=mx/\∀x∈l,x.d.Ok/\x.u.Ok
 h:t=LR->∃l:List CH,xs=l.map dH/\l.length<=mx/\∀x∈l,x.og/\x.body.Ok
 a:t=Me->∃l:List CA,xs=l.map dY/\l.length<=mx/\∀x∈l,x.og/\x.body.Ok/\x.after.Ok
 o:t=YM->∃l:List OB,xs=l.map cg/\l.length<=mx/\∀x∈l,x.Ok
 n:t=L6->∃l:List EN,xs=l.map iH/\l.length<=mx/\∀x∈l,x.Ok
 k:t=Ix->∃l:List TK,xs=l.map dv/\l.length<=mx/\∀x∈l,x.Ok
 q:t=Fq->∃l:List PR,xs=l.map gk/\l.length<=mx/\∀x∈l,x.Ok
def Hi(row:Row):Prop:=∀y∈row,Wf CX.K y/\∀t xs,y= .ae t xs->Dc t xs
def Hi.l{r s:Row}(h:Hi (r++s)):Hi r:=λy hy=>h y (by simp [hy])
def Hi.r{r s:Row}(h:Hi (r++s)):Hi s:=λy hy=>h y (by simp [hy])
def Hi.at(h:Hi row)(hm:AV.ae t xs∈row):Dc t xs:=(h _ hm).2 _ _ rfl
abbrev lA:er:=[.int .u8,.int .i64,.int .i64,.int .i64,.int .i64,.int .i64,.bool,.bool,.bool,.bool,.bool,.int .u8,.slice 54,.slice 54,.slice 118,.slice 118,.slice 3,.slice 41,.slice 110,.slice 112,.slice 115]
abbrev KC:er:=[.int .u8,.int .u8,.int .i64,.int .i64,.int .i64,.int .i64,.int .i64,.int .i64,.slice 54]
abbrev kdP:er:=[.int .u8,.int .i64,.int .i64,.int .i64,.slice 54]
abbrev OO:er:=[.int .i64,.int .i64,.int .i64,.bool,.slice 3]
abbrev kdN:er:=[.slice 3,.slice 3]
abbrev kdQ:er:=[.int .i64,.slice 3,.slice 54]
abbrev kdG:er:=[.slice 120,.int .i64,.slice 57,.slice 67]
def aoR(h:cZ KC row=true)(hi:Hi row):∃s:CE,row=aZ s/\s.Ok:=by
 obtain⟨x0,r0,rfl,q0,g0⟩:=fZ h;obtain⟨x0,rfl⟩:=mG q0;obtain⟨x1,r1,rfl,q1,g1⟩:=fZ g0;obtain⟨x1,rfl⟩:=mG q1;obtain⟨x2,r2,rfl,q2,g2⟩:=fZ g1;obtain⟨x2,rfl⟩:=mG q2;obtain⟨x3,r3,rfl,q3,g3⟩:=fZ g2;obtain⟨x3,rfl⟩:=mG q3;obtain⟨x4,r4,rfl,q4,g4⟩:=fZ g3;obtain⟨x4,rfl⟩:=mG q4;obtain⟨x5,r5,rfl,q5,g5⟩:=fZ g4;obtain⟨x5,rfl⟩:=mG q5;obtain⟨x6,r6,rfl,q6,g6⟩:=fZ g5;obtain⟨x6,rfl⟩:=mG q6;obtain⟨x7,r7,rfl,q7,g7⟩:=fZ g6;obtain⟨x7,rfl⟩:=mG q7;obtain⟨x8,r8,rfl,q8,g8⟩:=fZ g7;obtain⟨x8,rfl⟩:=pD q8;obtain rfl:=wx g8;obtain⟨l8,rfl,b8⟩:=(hi.at (t:=54) (xs:=x8) (by simp)).e rfl;exact⟨.mk x0 x1 x2 x3 x4 x5 x6 x7 l8,(zL (.mk x0 x1 x2 x3 x4 x5 x6 x7 l8)).symm,.mk _ b8.1 b8.2⟩
def aJE(h:cZ kdP row=true)(hi:Hi row):∃s:PL,row=cN s/\s.Ok:=by
 obtain⟨x0,r0,rfl,q0,g0⟩:=fZ h;obtain⟨x0,rfl⟩:=mG q0;obtain⟨x1,r1,rfl,q1,g1⟩:=fZ g0;obtain⟨x1,rfl⟩:=mG q1;obtain⟨x2,r2,rfl,q2,g2⟩:=fZ g1;obtain⟨x2,rfl⟩:=mG q2;obtain⟨x3,r3,rfl,q3,g3⟩:=fZ g2;obtain⟨x3,rfl⟩:=mG q3;obtain⟨x4,r4,rfl,q4,g4⟩:=fZ g3;obtain⟨x4,rfl⟩:=pD q4;obtain rfl:=wx g4;obtain⟨l4,rfl,b4⟩:=(hi.at (t:=54) (xs:=x4) (by simp)).e rfl;exact⟨⟨x0,x1,x2,x3,l4⟩,rfl,b4⟩
def aJF(h:cZ OO row=true)(hi:Hi row):∃s:OB,row=cg s/\s.Ok:=by
 obtain⟨x0,r0,rfl,q0,g0⟩:=fZ h;obtain⟨x0,rfl⟩:=mG q0;obtain⟨x1,r1,rfl,q1,g1⟩:=fZ g0;obtain⟨x1,rfl⟩:=mG q1;obtain⟨x2,r2,rfl,q2,g2⟩:=fZ g1;obtain⟨x2,rfl⟩:=mG q2;obtain⟨x3,r3,rfl,q3,g3⟩:=fZ g2;obtain⟨x3,rfl⟩:=I2 q3;obtain⟨x4,r4,rfl,q4,g4⟩:=fZ g3;obtain⟨x4,rfl⟩:=pD q4;obtain rfl:=wx g4;obtain⟨l4,rfl,b4⟩:=(hi.at (t:=3) (xs:=x4) (by simp)).i rfl;exact⟨⟨x0,x1,x2,x3,l4⟩,rfl,b4⟩
def aJG(h:cZ kdN row=true)(hi:Hi row):∃s:EN,row=iH s/\s.Ok:=by
 obtain⟨x0,r0,rfl,q0,g0⟩:=fZ h;obtain⟨x0,rfl⟩:=pD q0;obtain⟨x1,r1,rfl,q1,g1⟩:=fZ g0;obtain⟨x1,rfl⟩:=pD q1;obtain rfl:=wx g1;obtain⟨l0,rfl,b0⟩:=(hi.at (t:=3) (xs:=x0) (by simp)).i rfl;obtain⟨l1,rfl,b1⟩:=(hi.at (t:=3) (xs:=x1) (by simp)).i rfl;exact⟨⟨l0,l1⟩,rfl,b0,b1⟩
def aJD(h:cZ kdQ row=true)(hi:Hi row):∃s:PR,row=gk s/\s.Ok:=by
 obtain⟨x0,r0,rfl,q0,g0⟩:=fZ h;obtain⟨x0,rfl⟩:=mG q0;obtain⟨x1,r1,rfl,q1,g1⟩:=fZ g0;obtain⟨x1,rfl⟩:=pD q1;obtain⟨x2,r2,rfl,q2,g2⟩:=fZ g1;obtain⟨x2,rfl⟩:=pD q2;obtain rfl:=wx g2;obtain⟨l1,rfl,b1⟩:=(hi.at (t:=3) (xs:=x1) (by simp)).i rfl;obtain⟨l2,rfl,b2⟩:=(hi.at (t:=54) (xs:=x2) (by simp)).e rfl;exact⟨⟨x0,l1,l2⟩,rfl,b1,b2⟩
def GB(h:cZ lA row=true)(hi:Hi row):∃s:CS,row=encS s/\s.Ok:=by
 obtain⟨x0,r0,rfl,q0,g0⟩:=fZ h;obtain⟨x0,rfl⟩:=mG q0;obtain⟨x1,r1,rfl,q1,g1⟩:=fZ g0;obtain⟨x1,rfl⟩:=mG q1;obtain⟨x2,r2,rfl,q2,g2⟩:=fZ g1;obtain⟨x2,rfl⟩:=mG q2;obtain⟨x3,r3,rfl,q3,g3⟩:=fZ g2;obtain⟨x3,rfl⟩:=mG q3;obtain⟨x4,r4,rfl,q4,g4⟩:=fZ g3;obtain⟨x4,rfl⟩:=mG q4;obtain⟨x5,r5,rfl,q5,g5⟩:=fZ g4;obtain⟨x5,rfl⟩:=mG q5;obtain⟨x6,r6,rfl,q6,g6⟩:=fZ g5;obtain⟨x6,rfl⟩:=I2 q6;obtain⟨x7,r7,rfl,q7,g7⟩:=fZ g6;obtain⟨x7,rfl⟩:=I2 q7;obtain⟨x8,r8,rfl,q8,g8⟩:=fZ g7;obtain⟨x8,rfl⟩:=I2 q8;obtain⟨x9,r9,rfl,q9,g9⟩:=fZ g8;obtain⟨x9,rfl⟩:=I2 q9;obtain⟨x10,mq,rfl,rD,g10⟩:=fZ g9;obtain⟨x10,rfl⟩:=I2 rD;obtain⟨Ou,mo,rfl,xb,g11⟩:=fZ g10;obtain⟨Ou,rfl⟩:=mG xb;obtain⟨x12,ml,rfl,y4,g12⟩:=fZ g11;obtain⟨x12,rfl⟩:=pD y4;obtain⟨x13,mj,rfl,G7,g13⟩:=fZ g12;obtain⟨x13,rfl⟩:=pD G7;obtain⟨x14,ly,rfl,y0,g14⟩:=fZ g13;obtain⟨x14,rfl⟩:=pD y0;obtain⟨x15,Ep,rfl,G6,g15⟩:=fZ g14;obtain⟨x15,rfl⟩:=pD G6;obtain⟨x16,Eo,rfl,G5,g16⟩:=fZ g15;obtain⟨x16,rfl⟩:=pD G5;obtain⟨x17,En,rfl,B8,g17⟩:=fZ g16;obtain⟨x17,rfl⟩:=pD B8;obtain⟨x18,Em,rfl,OF,g18⟩:=fZ g17;obtain⟨x18,rfl⟩:=pD OF;obtain⟨x19,El,rfl,G4,g19⟩:=fZ g18;obtain⟨x19,rfl⟩:=pD G4;obtain⟨x20,Ek,rfl,q20,g20⟩:=fZ g19;obtain⟨x20,rfl⟩:=pD q20;obtain rfl:=wx g20;obtain⟨l12,rfl,b12⟩:=(hi.at (t:=54) (xs:=x12) (by simp)).e rfl;obtain⟨l13,rfl,b13⟩:=(hi.at (t:=54) (xs:=x13) (by simp)).e rfl;obtain⟨l14,rfl,b14⟩:=(hi.at (t:=118) (xs:=x14) (by simp)).p rfl;obtain⟨l15,rfl,b15⟩:=(hi.at (t:=118) (xs:=x15) (by simp)).p rfl;obtain⟨l16,rfl,b16⟩:=(hi.at (t:=3) (xs:=x16) (by simp)).i rfl;obtain⟨l17,rfl,b17⟩:=(hi.at (t:=41) (xs:=x17) (by simp)).s rfl;obtain⟨l18,rfl,b18⟩:=(hi.at (t:=110) (xs:=x18) (by simp)).d rfl;obtain⟨U7,rfl,b19⟩:=(hi.at (t:=112) (xs:=x19) (by simp)).h rfl;obtain⟨l20,rfl,VE⟩:=(hi.at (t:=115) (xs:=x20) (by simp)).a rfl;have hm:0<=Ou:=by
  have:=(hi (cE Ou) (by simp)).1;cases this with
  |int _ _ h=>exact(wf_u8 h).1
 refine⟨.mk ⟨x0,x1,x2,x3,x4,x5,x6,x7,x8,x9,x10,Ou,l12,l13,l14,l15,l16⟩ l17 l18 U7 l20,(xI (.mk ⟨x0,x1,x2,x3,x4,x5,x6,x7,x8,x9,x10,Ou,l12,l13,l14,l15,l16⟩ l17 l18 U7 l20)).symm,.mk _ ⟨b12,b13,b14,b15,b16,hm⟩ b17.1 b18.1 b19.1 VE.1 (λx hx=>(b19.2 x hx).1) (λx hx=>(VE.2 x hx).1) λy hy=> ?_⟩;simp only [CS.kids,mE,zG,xA,CS.L,CS.D,CS.H,CS.A,fV,pY,pX]at hy;rcases hy with⟨x,hx,h|h⟩|h|⟨x,hx,rfl⟩|⟨x,hx,h|h⟩
 ·rw [h];exact(b18.2 x hx).1
 ·rw [h];exact(b18.2 x hx).2
 ·exact b17.2 y h
 ·exact(b19.2 x hx).2
 ·rw [h];exact(VE.2 x hx).2.1
 ·rw [h];exact(VE.2 x hx).2.2
def aJJ(h:cZ (lA++lA) row=true)(hi:Hi row):∃s:CD,row=fC s/\s.d.Ok/\s.u.Ok:=by
 obtain⟨r,t,rfl,U,h2⟩:=A2 h;obtain⟨a,rfl,ha⟩:=GB U hi.l;obtain⟨b,rfl,hb⟩:=GB h2 hi.r;exact⟨.mk a b,rfl,ha,hb⟩
def aJI(h:cZ ([.slice 3]++lA) row=true)(hi:Hi row):∃s:CH,row=dH s/\s.og/\s.body.Ok:=by
 obtain⟨r,t,rfl,U,h2⟩:=A2 h;obtain⟨a,rfl,ha⟩:=GB h2 hi.r;obtain⟨x,r,rfl,q,g⟩:=fZ U;obtain⟨x,rfl⟩:=pD q;obtain rfl:=wx g;obtain⟨l,rfl,b⟩:=(hi.at (t:=3) (xs:=x) (by simp)).i rfl;exact⟨.mk l a,rfl,⟨b⟩,ha⟩
def aJK(h:cZ ([.int .u8]++(KC++([.int .i64,.slice 54]++(lA++lA)))) row=true)(hi:Hi row):∃s:CA,row=dY s/\s.og/\s.body.Ok/\s.after.Ok:=by
 obtain⟨r1,t1,rfl,U,h⟩:=A2 h;obtain⟨r2,t2,rfl,h2,h⟩:=A2 h;obtain⟨r3,t3,rfl,h3,h⟩:=A2 h;obtain⟨r4,t4,rfl,h4,h5⟩:=A2 h;obtain⟨g,rfl,hg⟩:=aoR h2 hi.r.l;obtain⟨a,rfl,ha⟩:=GB h4 hi.r.r.r.l;obtain⟨b,rfl,hb⟩:=GB h5 hi.r.r.r.r;obtain⟨x,r,rfl,q,g1⟩:=fZ U;obtain⟨x,rfl⟩:=mG q;obtain rfl:=wx g1;obtain⟨n,r,rfl,q,g3⟩:=fZ h3;obtain⟨n,rfl⟩:=mG q;obtain⟨y,r,rfl,q,g3⟩:=fZ g3;obtain⟨y,rfl⟩:=pD q;obtain rfl:=wx g3;obtain⟨l,rfl,b2⟩:=(hi.at (t:=54) (xs:=y) (by simp)).e rfl;exact⟨.mk x g n l a b,rfl,⟨hg,b2⟩,ha,hb⟩
def aDN(h:cZ ([.int .i64,.slice 134]++(lA++[.int .i64])) row=true)(hi:Hi row):∃s:TK,row=dv s/\s.Ok:=by
 obtain⟨r1,t1,rfl,U,h⟩:=A2 h;obtain⟨r2,t2,rfl,h2,h3⟩:=A2 h;obtain⟨a,rfl,ha⟩:=GB h2 hi.r.l;obtain⟨x,r,rfl,q,g1⟩:=fZ U;obtain⟨x,rfl⟩:=mG q;obtain⟨y,r,rfl,q,g1⟩:=fZ g1;obtain⟨y,rfl⟩:=pD q;obtain rfl:=wx g1;obtain⟨z,r,rfl,q,g3⟩:=fZ h3;obtain⟨z,rfl⟩:=mG q;obtain rfl:=wx g3;obtain⟨l,rfl,b2⟩:=(hi.at (t:=134) (xs:=y) (by simp)).n rfl;exact⟨⟨x,l,a,z⟩,rfl,b2.1,b2.2,ha⟩
def aJH(h:cZ [.int .i64] row=true):∃n:Int,row=[iI n]/\True:=by
 obtain⟨z,r,rfl,q,g3⟩:=fZ h;obtain⟨z,rfl⟩:=mG q;obtain rfl:=wx g3;exact⟨z,rfl,trivial⟩
def K3:CX.K 3=[.int .i64]:=pK
def K54:CX.K 54=KC:=pK
def aqh:CX.K 118=kdP:=pK
def K41:CX.K 41=lA:=pK
def aqk:CX.K 110=lA++lA:=pK
def aqj:CX.K 112=[.slice 3]++lA:=pK
def aqi:CX.K 115=[.int .u8]++(KC++([.int .i64,.slice 54]++(lA++lA))):=pK
def aqg:CX.K 120=OO:=pK
def aqf:CX.K 134=kdN:=pK
def K57:CX.K 57=[.int .i64,.slice 134]++(lA++[.int .i64]):=pK
def K67:CX.K 67=kdQ:=pK
def aiO:∀{xs:aY},(∀r∈xs,1<=dW r)->xs.length<=fI xs
 | [],_=>qy _
 |r::rs,h=>by
  have:=h r (by simp);have:=aiO (xs:=rs) λr hr=>h r (by simp [hr]);simp only [fI,fk];omega
def aiN:∀{xs:aY} {r:Row},r∈xs->dW r<=fI xs
 |x::xs,r,h=>by
  simp only [fI];rcases fV.1 h with rfl|h
  ·omega
  ·have:=aiN h;omega
def ZV:∀{xs:Row} {r:AV},r∈xs->rG r<=dW xs
 |x::xs,r,h=>by
  simp only [dW];rcases fV.1 h with rfl|h
  ·omega
  ·have:=ZV h;omega
def aLl(hk:∀row∈xs,cZ (CX.K t) row=true)(hl:∀row∈xs,1<=row.length->True)(hn:fI xs<=mx)(hi:∀row∈xs,Hi row):Dc t xs:=by
 have len:∀{k:Kind} {ks:er},CX.K t=k::ks->xs.length<=mx:=λ{k ks} e=>qR (aiO λr hr=>by
  have:=kS (hk r hr);rw [e]at this;have:=aiP r;simp at*;omega) hn
 refine⟨?_,?_,?_,?_,?_,?_,?_,?_,?_,?_,?_⟩
 ·rintro rfl;have hk:∀row∈xs,cZ ([.int .i64]) row=true:=λr hr=>by rw [<-K3];exact hk r hr
  have hlen:=len (K3);obtain⟨l,U,h2,h3⟩:=lift (enc:=λn:Int=>[iI n]) λr hr=>aJH (hk r hr);exact⟨l,U,by omega⟩
 ·rintro rfl;have hk:∀row∈xs,cZ (KC) row=true:=λr hr=>by rw [<-K54];exact hk r hr
  have hlen:=len (K54);obtain⟨l,U,h2,h3⟩:=lift λr hr=>aoR (hk r hr) (hi r hr);exact zV
 ·rintro rfl;have hk:∀row∈xs,cZ (kdP) row=true:=λr hr=>by rw [<-aqh];exact hk r hr
  have hlen:=len (aqh);obtain⟨l,U,h2,h3⟩:=lift λr hr=>aJE (hk r hr) (hi r hr);exact zV
 ·rintro rfl;have hk:∀row∈xs,cZ (lA) row=true:=λr hr=>by rw [<-K41];exact hk r hr
  have hlen:=len (K41);obtain⟨l,U,h2,h3⟩:=lift λr hr=>GB (hk r hr) (hi r hr);exact zV
 ·rintro rfl;have hk:∀row∈xs,cZ (lA++lA) row=true:=λr hr=>by rw [<-aqk];exact hk r hr
  have hlen:=len (aqk);obtain⟨l,U,h2,h3⟩:=lift λr hr=>aJJ (hk r hr) (hi r hr);exact zV
 ·rintro rfl;have hk:∀row∈xs,cZ ([.slice 3]++lA) row=true:=λr hr=>by rw [<-aqj];exact hk r hr
  have hlen:=len (aqj);obtain⟨l,U,h2,h3⟩:=lift λr hr=>aJI (hk r hr) (hi r hr);exact zV
 ·rintro rfl;have hk:∀row∈xs,cZ ([.int .u8]++(KC++([.int .i64,.slice 54]++(lA++lA)))) row=true:=λr hr=>by rw [<-aqi];exact hk r hr
  have hlen:=len (aqi);obtain⟨l,U,h2,h3⟩:=lift λr hr=>aJK (hk r hr) (hi r hr);exact zV
 ·rintro rfl;have hk:∀row∈xs,cZ (OO) row=true:=λr hr=>by rw [<-aqg];exact hk r hr
  have hlen:=len (aqg);obtain⟨l,U,h2,h3⟩:=lift λr hr=>aJF (hk r hr) (hi r hr);exact zV
 ·rintro rfl;have hk:∀row∈xs,cZ (kdN) row=true:=λr hr=>by rw [<-aqf];exact hk r hr
  have hlen:=len (aqf);obtain⟨l,U,h2,h3⟩:=lift λr hr=>aJG (hk r hr) (hi r hr);exact zV
 ·rintro rfl;have hk:∀row∈xs,cZ ([.int .i64,.slice 134]++(lA++[.int .i64])) row=true:=λr hr=>by rw [<-K57];exact hk r hr
  have hlen:=len (K57);obtain⟨l,U,h2,h3⟩:=lift λr hr=>aDN (hk r hr) (hi r hr);exact zV
 ·rintro rfl;have hk:∀row∈xs,cZ (kdQ) row=true:=λr hr=>by rw [<-K67];exact hk r hr
  have hlen:=len (K67);obtain⟨l,U,h2,h3⟩:=lift λr hr=>aJD (hk r hr) (hi r hr);exact zV
def dec(h:Wf CX.K x):rG x<=mx->∀t xs,x= .ae t xs->Dc t xs:=by
 induction h with
 |int|bool|str=>exact λ_ _ _ h=>aD
 |ae t xs hl hk hw ih=>
  rintro hn _ _ ⟨⟩;simp only [rG]at hn;exact aLl hk (λ_ _ _=>trivial) (by omega) λrow hr y hy=>⟨hw row hr y hy,ih row hr y hy (by have:=aiN hr;have:=ZV hy;omega)⟩
def agz(h:aci CX 26 x)(hn:KB x<=mx):∃p:PG,x=aG p/\p.Ok/\IG p:=by
 have ha:(CX.ti 26).u.agg =true:=pK;have lN:(CX.ti 26).ks =kdG:=pK;rcases h with⟨_,row,rfl,h2,h3⟩|⟨U,_⟩
 ·rw [lN]at h2;have hn:dW row<=mx:=hn;have hi:Hi row:=λy hy=>⟨h3 y hy,dec (h3 y hy) (by have:=ZV hy;omega)⟩;rename_i hx;clear hx lN;have h:=h2;obtain⟨x0,r0,rfl,q0,g0⟩:=fZ h;obtain⟨x0,rfl⟩:=pD q0;obtain⟨x1,r1,rfl,q1,g1⟩:=fZ g0;obtain⟨x1,rfl⟩:=mG q1;obtain⟨x2,r2,rfl,q2,g2⟩:=fZ g1;obtain⟨x2,rfl⟩:=pD q2;obtain⟨x3,r3,rfl,q3,g3⟩:=fZ g2;obtain⟨x3,rfl⟩:=pD q3;obtain rfl:=wx g3;obtain⟨l0,rfl,b0⟩:=(hi.at (t:=120) (xs:=x0) (by simp)).o rfl;obtain⟨l2,rfl,b2⟩:=(hi.at (t:=57) (xs:=x2) (by simp)).k rfl;obtain⟨l3,rfl,b3⟩:=(hi.at (t:=67) (xs:=x3) (by simp)).q rfl;exact⟨⟨l0,x1,l2,l3⟩,rfl,⟨b0.1,b0.2,b2.1,b2.2,b3.1,b3.2⟩,aEn λy hy=>(hi y hy).1⟩
 ·rw [ha]at U;cases U
end
end Go.Proofs.B
