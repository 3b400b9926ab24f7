/-
  CoreNulls answers true, for every program and number.
-/
import Derived.Test.YtomkobcipaligaaGreatDoorW5
import Derived.Test.YtomkobcipaligaaGreatDoorW4
set_option linter.all false
set_option linter.deprecated false
set_option maxHeartbeats 4000000
namespace Go.aA
def aaj{p:Prop}(h:p:=by
 show cP dG 2 (gA (p.tasks.map cF) ((i:Int).toNat))=_;rw [fK hi,RF]):p:=h
def Qz{p:Prop}(h:p:=by unfold n6;rw [a,b,c,d,e,f];rfl):p:=h
end Go.aA
namespace Go.Proofs.YtomkobcipaligaaGreatDoor
open Go Go.aA
section
variable{c:Int->Nat}
def w0(t:Int):WH:=⟨t,[],[],[],[],[],false,false,false,-1,0⟩
def fV:List TK->List CS
 | []=>[]
 |x::xs=>ez x.body++fV xs
def gP:List TK->Int->Nat
 | [],_=>0
 |x::xs,t=>jW x.body t+gP xs t
section
variable {p:PG} {ro:List RO}
def Z9{i:Nat}(hi:i<p.tasks.length):WI p (w0 i):=
 ⟨⟨.inl (px),(by intro a h;cases h),qM hi⟩,sK _,sK _,sK _,sK _,sK _,by show(0:Int)<=64;omega⟩
abbrev K2(p:PG)(lf:Int):AV:= J (dM 2 1 p lf)
def aMM(ct:CT p p.tasks ro)(hE:kO):∀lf cn cc,ST p lf cn cc->∃b dm df,az (au df)=df∧
 bP E3 [fZ (p.tasks.map cF),iI (ln (p.tasks.map cF)),iI 0,K2 p lf,.ab 0 cn,cR ro] (bif b then(1,[K2 p dm,.ab 0 df,cR ro])else(0,[aq,K2 p dm,.ab 0 df,cR ro]))∧
 bP BY [rR ro,iI lf,iI 0,aG p] (0,[iI (bif b then dm else-1),aG p])∧(b=true->ST p dm df λt=>cc t+gP p.tasks t)∧Cn b lf dm (∀j (h:j<p.tasks.length),Vl p ro (w0 (j:Nat)) p.tasks[j].body) (fV p.tasks).length :=by
 have qg:∀{i:Nat} {n:Int},i=p.tasks.length∨n<0->bP BY [rR ro,iI n,iI (i:Int),aG p] (0,[iI n,aG p]):=λ{i n} h=>by
  refine bD aeF (aw (c:=decide ((i:Int)<ln (p.tasks.map cF))) (λa=>ax (c:=decide (0<=n)) ?_ aL) λ_=>aL);rw [dB]at a;simp at a⊢;rcases h with h|h<;>omega
 have k:=fH (m:=p.tasks.length) (P:=λi=>∀lf cn cc,ST p lf cn cc->∃b dm df,az (au df)=df∧
  bP E3 [fZ (p.tasks.map cF),iI (ln (p.tasks.map cF)),iI (i:Int),K2 p lf,.ab 0 cn,cR ro] (bif b then(1,[K2 p dm,.ab 0 df,cR ro])else(0,[aq,K2 p dm,.ab 0 df,cR ro]))∧
  bP BY [rR ro,iI lf,iI (i:Int),aG p] (0,[iI (bif b then dm else-1),aG p])∧(b=true->ST p dm df λt=>cc t+gP (p.tasks.drop i) t)∧Cn b lf dm (∀j (h:j<p.tasks.length),i<=j->Vl p ro (w0 (j:Nat)) p.tasks[j].body) (fV (p.tasks.drop i)).length)
  (λlf cn cc st=>⟨true,lf,cn,st.pk,bD aen (ax dY (af (by rw [st.pk];rfl))),qg (.inl rfl),(λ_=>st.ext λt=>by rw [gK];simp [gP]),Cn.nil st.lo (λj h1 h2=>by omega) (yu)⟩)
  λi hi ih lf cn cc st=>by
   have hk:=ct.ok.task _ (dy hi);have hlen:(fV (p.tasks.drop i)).length =(ez p.tasks[i].body).length +(fV (p.tasks.drop (i+1))).length :=by rw [fW hi];simp only [fV,e7]
   obtain⟨b,l1,c1,iG,e1,f1,g1,s1⟩:=stE ct hE p.tasks[i].body hk.body (w0 i) (Z9 hi) lf cn cc st;have gb:cP dG 2 (gA (p.tasks.map cF) ((i:Int).toNat))=encS p.tasks[i].body :=by rw [fK hi,RF]
   have C:∀r:UO,_->bP E3 [fZ (p.tasks.map cF),iI (ln (p.tasks.map cF)),iI (i:Int),K2 p lf,.ab 0 cn,cR ro] r:=λr h=>by
    refine bD aen (br (dx hi) (aH (cN hi) ?_));rw [gb,st.pk];exact Qy
   have R:∀r:UO,_->bP BY [rR ro,iI lf,iI (i:Int),aG p] r:=λr h=>by
    refine bD aeF (br (dx (f:=cF) hi) (br (c:=decide (0<=lf)) (Qv) (aH (cN (f:=cF) hi) ?_)));rw [show cP dG 2 (gA (gR (nf p) 2) ((i:Int).toNat))=encS (p.tasks[i]'hi).body from gb];refine aj f1 ?_;exact h
   rw [ix hi ct.ok.tasks]at C R;cases b with
   |false=>
    refine⟨false,l1,c1,iG,C _ (aY (af ?_)),R _ (qg (.inr (px))),(λh=>aX),s1.no (λh=>h i hi (fk _)) (by omega)⟩;erw [iG];rfl
   |true=>
    obtain⟨b,l2,c2,js,e2,f2,g2,s2⟩:=ih l1 c1 _ (g1 rfl);refine⟨b,l2,c2,js,C _ (bj ?_),R _ f2,λh=>(g2 h).ext λt=> ?_,s1.then s2 ⟨λh=>⟨h i hi (fk _),λj h1 h2=>h j h1 (by omega)⟩,λ⟨h,g⟩ j h1 h2=> ?_⟩ hlen⟩
    ·erw [iG];exact e2
    ·rw [fW hi];simp only [gP];omega
    ·exact ZN
 intro lf cn cc st;have:=k lf cn cc st;rw [gJ]at this;simpa using this
def R7(n:Nat)(c:Int->Nat):Bool:=(List.range (n- 1)).any λi=>(c ((i+1:Nat):Int):Int) != 1
def aOM{lf:Int}{cn:aW}(st:ST p lf cn c)(h1:1<=p.tasks.length)(hl:p.tasks.length<=32):
 bP E2 [iI (ln (p.tasks.map cF)),iI 0,K2 p lf,.ab 0 cn,cR ro] (bif R7 p.tasks.length c then(0,[aq,K2 p lf,.ab 0 cn,cR ro])else(1,[K2 p lf,.ab 0 cn,cR ro])):=by
 rw [dB];have k:=vv (m:=p.tasks.length- 1) (p:=λi=>(c ((i+1:Nat):Int):Int) != 1) (hit:=(0,[aq,K2 p lf,.ab 0 cn,cR ro])) (done:=(1,[K2 p lf,.ab 0 cn,cR ro]))
  (LF:=λi N m=>E2 (FU CX EE N) N m [iI (p.tasks.length:Int),iI ((i+1:Nat):Int),K2 p lf,.ab 0 cn,cR ro])
  (bD VR (ax (by simp<;>omega) (af (by rw [st.pk];rfl))))
  λi hi r a b=>bD VR (br (by simp<;>omega) (br (by simp<;>omega) ?_))
 ·refine bD VR (br (eu) (bj ?_));rw [st.pk];exact k
 ·rw [st.pk,st.rep]
  by_cases h0:c ((i+1:Nat):Int)=0
  ·rw [if_pos h0];exact af (a (by rw [h0];rfl))
  ·rw [if_neg h0];refine aw (c:=((c ((i+1:Nat):Int):Int) != 1)) (λd=>af (a d)) λd=> ?_;have:=b d;rw [FG (by omega)];exact this
def aOK(h1:1<=p.tasks.length)(hl:p.tasks.length<=32):
 bP IK [iI 1,aG p,aa (ints (cl p.tasks.length c))] (bif R7 p.tasks.length c then(0,[aq,aG p,aa (ints (cl p.tasks.length c))])else(1,[aG p,aa (ints (cl p.tasks.length c))])):=by
 refine vv (m:=p.tasks.length- 1) (p:=λi=>(c ((i+1:Nat):Int):Int) != 1) (hit:=(0,[aq,aG p,aa (ints (cl p.tasks.length c))])) (done:=(1,[aG p,aa (ints (cl p.tasks.length c))]))
  (LF:=λi N m=>IK (FU CX EE N) N m [iI ((i+1:Nat):Int),aG p,aa (ints (cl p.tasks.length c))])
  (bD aei (ax (by show decide (((p.tasks.length- 1+1:Nat):Int)<ln (p.tasks.map cF))=false;rw [dB];simp<;>omega) aL))
  λi hi r a b=>bD aei (br (by show decide (((i+1:Nat):Int)<ln (p.tasks.map cF))=true;rw [dB];simp;omega) ?_)
 have fG:ib ((i+1:Nat):Int) p.tasks.length=true:=qM (by omega);have ao2:ib ((i+1:Nat):Int) (ints (cl p.tasks.length c)).length =true:=by rw [ey,An];exact fG
 have cM:i+1<(cl p.tasks.length c).length :=by rw [An];omega
 have hv:=aaG (c:=c) fG;have hg:gI (gA (ints (cl p.tasks.length c)) (((i+1:Nat):Int).toNat)) 0=(c ((i+1:Nat):Int):Int):=by
  rw [mU]at hv⊢;rw [Rp cM];exact hv
 rw [hg,FG (by omega)];exact aH ao2 (aH (toN_lt ao2) (aw (c:=((c ((i+1:Nat):Int):Int) != 1)) (λd=>af (a d)) λd=>b d))
def aG2(hp:p.Ok){c0:Int->Nat}(hr:∀t,gP p.tasks t≠0->ib t p.tasks.length=true)(hb:∀t,c0 t+gP p.tasks t<=100000):
 bP IL [iI 0,aG p,aa (ints (cl p.tasks.length c0))] (0,[aG p,aa (ints (cl p.tasks.length λt=>c0 t+gP p.tasks t))]):=by
 have AP:∀(i:Nat) (hi:i<p.tasks.length) t,jW p.tasks[i].body t<=gP p.tasks t:=λi hi t=>by
  have app:∀a b:List TK,gP (a++b) t=gP a t+gP b t:=λa b=>by
   induction a with
   |nil=>simp [gP]
   |cons x a ih=>simp only [kK,gP,ih];omega
  have:gP p.tasks t=gP (p.tasks.take i) t+gP (p.tasks.drop i) t:=by rw [<-app,PJ]
  rw [this,fW hi];simp only [gP];omega
 have k:=fH (m:=p.tasks.length) (P:=λi=>∀c:Int->Nat,(∀t,c t+gP (p.tasks.drop i) t<=100000)->bP IL [iI (i:Int),aG p,aa (ints (cl p.tasks.length c))] (0,[aG p,aa (ints (cl p.tasks.length λt=>c t+gP (p.tasks.drop i) t))]))
  (λc _=>by
    rw [gK];refine bD aej (ax (dY (f:=cF) (l:=p.tasks)) (af ?_));have:(λt=>c t+gP [] t)=c:=by funext t;simp [gP]
    rw [this];rfl)
  λi hi ih c hb=>by
   have hk:=hp.task _ (dy hi);have gb:cP dG 2 (gA (gR (nf p) 2) ((i:Int).toNat))=encS p.tasks[i].body :=aaj;have e2:(λt=>c t+gP (p.tasks.drop i) t)=λt=>(c t+jW p.tasks[i].body t)+gP (p.tasks.drop (i+1)) t:=by
    funext t;rw [fW hi];simp only [gP];omega
   have j:=aG3 (n:=p.tasks.length) p.tasks[i].body hk.body c (λt ht=>hr t (by have:=AP i hi t;omega)) (λt=>by have:=hb t;rw [PI e2 t]at this;omega);refine bD aej (br (dx (f:=cF) hi) (aH (cN (f:=cF) hi) ?_));rw [gb,ix hi hp.tasks];refine aj j ?_;rw [e2];exact ih (λt=>c t+jW p.tasks[i].body t) (λt=>ajs)
 have:=k c0 (J0);rw [gJ]at this;exact this
def n6(p:PG):Bool:=bif !uv p.bu then false else bif decide (p.eL<4)then false else bif decide (64<p.eL)then false else bif decide (ln (p.tasks.map cF)<1)then false else bif decide (32<ln (p.tasks.map cF))then false else !decide (32<ln (p.dw.map fA))
def Ml(p:PG):Bool:=decide (0<ln ((ml p.tasks 0).au.map iP))
def YN(h:n6 p=true):uv p.bu=true∧4<=p.eL∧p.eL<=64∧1<=p.tasks.length∧p.tasks.length<=32:=by
 unfold n6 at h;cases a:uv p.bu with
 |false=>rw [a]at h;cases h
 |true=>
  cases b:decide (p.eL<4)with
  |true=>rw [a,b]at h;cases h
  |false=>
   cases c:decide (64<p.eL)with
   |true=>rw [a,b,c]at h;cases h
   |false=>
    cases d:decide (ln (p.tasks.map cF)<1)with
    |true=>rw [a,b,c,d]at h;cases h
    |false=>
     cases e:decide (32<ln (p.tasks.map cF))with
     |true=>rw [a,b,c,d,e]at h;cases h
     |false=>
      rw [dB]at d e;simp at b c d e;exact⟨rfl,by omega,by omega,by omega,by omega⟩
def g0t(h:1<=p.tasks.length):gR (gA (p.tasks.map cF) 0) 1=(ml p.tasks 0).au.map iP:=by
 have:=Gz (l:=p.tasks) (i:=0) (qM (i:=0) (by omega));rw [show(0:Int).toNat =0 from rfl]at this;exact fa
def aF0(hp:p.Ok):bK Xn [aG p] (bif n6 p&& !Ml p then(0,[aG p])else(1,[aq,aG p])):=by
 refine bW az2 (aj (aov hp.bu hp.obj).1 (aw (c:= !uv p.bu) (λa=>af ?_) λa=>aw (c:=decide (p.eL<4)) (λb=>af ?_) λb=>aw (c:=decide (64<p.eL)) (λc=>af ?_) λc=>aw (c:=decide (ln (p.tasks.map cF)<1)) (λd=>af ?_) λd=>aw (c:=decide (32<ln (p.tasks.map cF))) (λe=>af ?_) λe=>aw (c:=decide (32<ln (p.dw.map fA))) (λf=>af ?_) λf=>aH ?_ ?_))
 ·unfold n6;rw [a];rfl
 ·unfold n6;rw [a,b];rfl
 ·unfold n6;rw [a,b,c];rfl
 ·unfold n6;rw [a,b,c,d];rfl
 ·unfold n6;rw [a,b,c,d,e];rfl
 ·exact Qz
 ·show decide (0<ln (p.tasks.map cF))=true;rw [dB]at d⊢;simp at d⊢;omega
 ·have h1:1<=p.tasks.length:=by rw [dB]at d;simp at d;omega
  have hh:n6 p=true:=Qz;rw [show gR (gA (gR (nf p) 2) 0) 1=(ml p.tasks 0).au.map iP from g0t h1];refine aw (c:=Ml p) (λg=>af ?_) λg=>af ?_
  ·rw [hh,g];rfl
  ·rw [hh,g];rfl
def aFZ(hp:p.Ok):bK XI [aG p] (bif n6 p then(0,[aG p])else(1,[aq,aG p])):=by
 refine bW aAP (aj (aov hp.bu hp.obj).2 (aw (c:= !uv p.bu) (λa=>af ?_) λa=>aw (c:=decide (p.eL<4)) (λb=>af ?_) λb=>aw (c:=decide (64<p.eL)) (λc=>af ?_) λc=>aw (c:=decide (ln (p.tasks.map cF)<1)) (λd=>af ?_) λd=>aw (c:=decide (32<ln (p.tasks.map cF))) (λe=>af ?_) λe=>aw (c:=decide (32<ln (p.dw.map fA))) (λf=>af ?_) λf=>af ?_))
 ·unfold n6;rw [a];rfl
 ·unfold n6;rw [a,b];rfl
 ·unfold n6;rw [a,b,c];rfl
 ·unfold n6;rw [a,b,c,d];rfl
 ·unfold n6;rw [a,b,c,d,e];rfl
 ·exact Qz
 ·exact Qz
def aO0(p:PG):Prop:=∃ts:List TK,bP BZ [iI 0,aG (pT p ts)] (1,[aG (pT p ts)])
structure MP(p:PG):Prop where
 hd:n6 p=true
 e0:Ml p=false
 tk:p.tasks.any (λt=> !sf t)=false
 ro:∃ro,vq p=some ro∧∀j (h:j<p.tasks.length),Vl p ro (w0 (j:Nat)) p.tasks[j].body
 pr:aO0 p
 sz:(fV p.tasks).length <=8192
 one:R7 p.tasks.length (gP p.tasks)=false
def aoH(hp:p.Ok)(hE:kO):∃b,Ev zW [aG p] (0,[ak b])∧Ev yi [aG p] (0,[ak b])∧(b=true ↔ MP p):=by
 have c6:=aF0 hp;have r6:=aFZ hp;cases hh:n6 p with
 |false=>
  rw [hh]at c6 r6;exact⟨false,bx Ji (aj c6 (bj aL)),bx agL (aj r6 (bj aL)),(λh=>aX),λh=>by have:=h.hd;rw [hh]at this;cases this⟩
 |true=>
  rw [hh]at c6 r6;simp only [cf,oK]at c6 r6;obtain⟨h1,h2,h3,h4,h5⟩:=YN hh;have ol:=ahY hp.bu h1;have t0:decide (0<ln (p.tasks.map cF))=true:=sV;have R0:∀r:UO,_->Ev yi [aG p] r:=λr h=>by
   refine bx agL (aj r6 (aY (aH t0 ?_)));erw [g0t h4];exact h
  cases he:Ml p with
  |true=>
   rw [he]at c6;exact⟨false,bx Ji (aj c6 (bj aL)),R0 _ (br he aL),(λh=>aX),λh=>by have:=h.e0;rw [he]at this;cases this⟩
  |false=>
   rw [he]at c6;have mc:=mtC hp;have mr:=mtR hp;cases ht:p.tasks.any (λt=> !sf t)with
   |true=>
    rw [ht]at mc mr;have j:bK Oj [aG p] (1,[aq,aG p]):=bW afd (aj mc.diag (aY aL));have j':bK OG [aG p] (1,[aq,aG p]):=bW aft (aj mr.diag (aY aL));exact⟨false,bx Ji (aj c6 (aY (aj j (bj aL)))),R0 _ (ax he (aj j' (bj aL))),(λh=>aX),λh=>by have:=h.tk;rw [ht]at this;cases this⟩
   |false=>
    rw [ht]at mc mr;have j:bK Oj [aG p] (0,[aG p]):=bW afd (aj mc.diag (bj aL));have j':bK OG [aG p] (0,[aG p]):=bW aft (aj mr.diag (bj aL));have hol:1<=p.bu.length:=by
     unfold uv at h1;cases z:decide (ln (cb p.bu)<1)with
     |true=>rw [z]at h1;cases h1
     |false=>rw [dB]at z;simp at z;omega
    obtain⟨x,rc⟩:=aEp hp ol hol;obtain⟨x',rr⟩:=aEo hp ol;cases hf:vq p with
    |none=>
     rw [hf]at rc rr;exact⟨false,bx Ji (aj c6 (aY (aj j (aY (aj rc (aY aL)))))),R0 _ (ax he (aj j' (aY (aj rr (aY aL))))),(λh=>aX),λh=>by obtain⟨_,h,_⟩:=h.ro;rw [hf]at h;cases h⟩
    |some ro=>
     rw [hf]at rc rr;obtain⟨i1,i2,i3,i4⟩:=Xq hf;have aGi:∀q∈p.dw,∀x∈q.kg,ib x p.bu.length=true:=λq hq=>by
      refine alp hp.bu ?_;have:=i3 q hq;rw [<-dB gj p.bu];exact this
     have ct:CT p p.tasks ro:=⟨⟨rfl,λ_=>rfl⟩,hp,ol,i1,λr hr=>by
      rcases i2 r hr with h|⟨h,_⟩|⟨_,h⟩
      ·exact .inl h
      ·exact .inr (.inl h)
      ·exact .inr (.inr h),h3,h5,λt ht e he=>by
       obtain⟨a,b⟩:=i4 t ht e he;obtain⟨a1,a2⟩:=wQ hp.bu a;obtain⟨b1,b2⟩:=wQ hp.bu b;exact⟨a2,b2,a1,b1⟩⟩
     obtain⟨b,pp⟩:=aEv hp hE ol aGi;obtain⟨p1,p2⟩:=pp p.tasks;have C1:∀r:UO,_->Ev zW [aG p] r:=λr h=>by
      refine bx Ji (aj c6 (aY (aj j (aY (aj rc (bj ?_))))));exact h
     have R1:∀r:UO,_->Ev yi [aG p] r:=λr h=>by
      refine R0 r (ax he (aj j' (aY (aj rr (bj ?_)))));exact h
     cases b with
     |false=>
      have k:bK N7 [aG p] (1,[aq,aG p]):=bW aeP (aj p1.diag (aY aL));have k':bK Og [aG p] (1,[aq,aG p]):=bW afb (aj p2.diag (aY aL));exact⟨false,C1 _ (aj k (bj aL)),R1 _ (aj k' (bj aL)),(λh=>aX),λh=>by obtain⟨ts,h⟩:=h.pr;have:=(pp ts).2.uniq h;injection this with this;cases this⟩
     |true=>
      have k:bK N7 [aG p] (0,[aG p]):=bW aeP (aj p1.diag (bj aL));have k':bK Og [aG p] (0,[aG p]):=bW afb (aj p2.diag (bj aL));have oz:ST p 8192 (az []) λ_=>0:=⟨wV,λt=>J4,λt=>by simp,by omega,by omega,λt h=>absurd rfl h⟩;obtain⟨b,lf,cn,pk,u1,u2,u3,u4⟩:=aMM ct hE 8192 (az []) _ oz;have C2:∀r:UO,_->Ev zW [aG p] r:=λr h=>by
       refine C1 r (aj k (aY (aj u1.diag ?_)));exact h
      have k1:bK WT [iI 8192,aG p,rR ro] (0,[iI (bif b then lf else-1),aG p,rR ro]):=bW ayA (aj u2.diag aL);have R2:∀r:UO,_->Ev yi [aG p] r:=λr h=>by
       refine R1 r (aj k' (aY (aj k1 ?_)));exact h
      cases b with
      |false=>exact⟨false,C2 _ (aY aL),R2 _ (aY aL),(λh=>aX),λh=>by obtain⟨dF,h1,h2⟩:=h.ro;rw [hf]at h1;injection h1 with h1;subst h1;have:=u4.1.2 ⟨h2,by have:=h.sz;omega⟩;cases this⟩
      |true=>
       have st:=(u3 rfl).ext (d:=gP p.tasks) λt=>by simp
       have lG:∀t,gP p.tasks t≠0->ib t p.tasks.length=true:=λt ht=>by
        have:=st.jz t ht;exact Qh
       have q1:=aOM (ro:=ro) st h4 h5;have q0:=aG2 hp (c0:=λ_=>0) lG λt=>by have:=st.le t;have:=st.lo;omega
       have q2:=aOK (c:=λt=>0+gP p.tasks t) h4 h5;have e0:(λt=>0+gP p.tasks t)=gP p.tasks:=by funext t;simp
       rw [e0]at q0 q2;have jX:List.replicate ((ln (p.tasks.map cF)).toNat) ([iI 0]:Row)=ints (cl p.tasks.length λ_=>0):=by
        rw [dB,mU];apply List.ext_getElem
        ·simp [cl]
        ·intro i a b;simp [cl]
       have tl:(decide (0<=ln (p.tasks.map cF))&&decide (ln (p.tasks.map cF)<=ln (p.tasks.map cF))&&decide ((ln (p.tasks.map cF))*8<=140737488355328))=true:=sV;have R3:∀r:UO,_->Ev yi [aG p] r:=λr h=>by
        refine R2 r (ax (c:=decide (lf<0)) (Qv) (aH tl ?_));rw [<-jX]at q0;refine aj q0.diag (aj q2.diag ?_);exact h
       have C3:∀r:UO,_->Ev zW [aG p] r:=λr h=>by
        refine C2 r (bj ?_);erw [pk];refine aj q1.diag ?_;exact h
       cases ho:R7 p.tasks.length (gP p.tasks)with
       |true=>
        rw [ho]at C3 R3;exact⟨false,C3 _ (aY aL),R3 _ (aY aL),(λh=>aX),λh=>by have:=h.one;rw [ho]at this;cases this⟩
       |false=>
        rw [ho]at C3 R3;have z0:gI (gA (ints (cl p.tasks.length (gP p.tasks))) 0) 0=0:=by
         have cM:0<(cl p.tasks.length (gP p.tasks)).length :=by rw [An];omega
         rw [Rp cM];have hv:=aaG (c:=gP p.tasks) (qM (i:=0) (show 0<p.tasks.length by omega));rw [show((0:Nat):Int).toNat =0 from rfl]at hv;rw [hv]
         by_cases hz:gP p.tasks ((0:Nat):Int)=0
         ·rw [hz];rfl
         ·have:=st.jz _ hz;omega
        have tn:decide (0<ln (ints (cl p.tasks.length (gP p.tasks))))=true:=by rw [dB,An];simp;omega
        have tn':decide (0<(ints (cl p.tasks.length (gP p.tasks))).length)=true:=by rw [ey,An];simp;omega
        refine⟨true,C3 _ (bj aL),R3 _ (bj (aH tn (aH tn' (af ?_)))),λ_=>⟨hh,he,ht,⟨ro,hf,(u4.1.1 rfl).1⟩,⟨_,(pp p.tasks).2⟩,by have:=(u4.1.1 rfl).2;omega,ho⟩,λ_=>rfl⟩;show(0,[ak (gI (gA (ints (cl p.tasks.length (gP p.tasks))) 0) 0==0)])=_;rw [z0];rfl
end
end
end Go.Proofs.YtomkobcipaligaaGreatDoor
namespace Go.aA
def Rf{p:Prop}(h:p:=by rw [gJ];simp only [e7,mf,sL,pX];omega):p:=h
def Gi{p:Prop}(h:p:=by simp only [e7];omega):p:=h
end Go.aA
namespace Go.aA
def ahH:=@List.set_append_right
end Go.aA
namespace Go.Proofs.YtomkobcipaligaaGreatDoor
open Go Go.aA
def XM(a b:List CS):gp (a++b)=gp a++gp b:=by
 induction a with
 |nil=>rfl
 |cons x a ih=>simp only [kK,gp,ih,iU]
def aEx(D:List CD):gp (dK D)=iN D:=by
 induction D with
 |nil=>rfl
 |cons d D ih=>simp only [dK,vd,XM]at ih⊢;simp only [gp,iN,YI,ih,Ad]
def aEy(A:List CA):gp (aK A)=kc A:=by
 induction A with
 |nil=>rfl
 |cons d D ih=>simp only [aK,vd,XM]at ih⊢;simp only [gp,kc,YJ,ih,Ad]
def aFH(H:List CH):gp (H.map CH.body)=j8 H:=by
 induction H with
 |nil=>rfl
 |cons d D ih=>simp only [nu,gp,j8,YH,ih]
def Py(s:CS):ez s=s::gp s.kids:=by
 rw [FP];simp only [CS.kids,XM,aFH];have a:=aEx s.D;have b:=aEy s.A;simp only [dK,aK]at a b;rw [a,b]
abbrev pX:Nat:=100000000
def ak2(a b:List CS):fo (a++b)= bC (a.map encS++b.map encS):=by
 show bC ((a++b).map encS)=_;rw [oi]
def Lj:∀s:CS,s.Ok->∀acc:List CS,acc.length+(ez s).length <=pX->Ev Ov [aS s,fo acc] (0,[fo (acc++ez s)]):=by
 refine CS.ind λs ih bz acc hb=> ?_;have kv:∀y∈s.kids,y.Ok:=Gv;have kl:=Jt bz;have LY:=Py s;rw [LY]at hb⊢;simp only [mf,pX]at hb;have k:=fH (m:=s.kids.length) (P:=λi=>∀acc:List CS,acc.length+(gp (s.kids.drop i)).length <=pX->bP Nu [iI (i:Int),fo s.kids,fo acc] (0,[fo s.kids,fo (acc++gp (s.kids.drop i))]))
  (λacc _=>by
    rw [gK];exact bD adY (ax dY (af (by simp [gp]))))
  λi hi fr acc jb=>by
   have hm:=dy hi;have gs:dJ (gA (s.kids.map encS) ((i:Int).toNat))=encS s.kids[i]:=J5;have e:=Xs hi;rw [e]at jb⊢;rw [e7]at jb;have j:=ih s.kids[i] hm (kv _ hm) acc (by omega);refine bD adY (br (dx hi) (aH (cN hi) (aH (toN_lt (cN hi)) ?_)));rw [gs,FG (by omega)];refine aj j ?_;rw [<-iU];exact fr (acc++ez s.kids[i]) (J8)
 refine bx aAe (aH (w9) ?_);rw [fF];refine aj (Sl bz) ?_;have k0:=k (acc++[s]) (by rw [e7,gJ];simp only [mf,sL,pX];omega);rw [ak2]at k0;refine aj k0.diag (af ?_);show(0,[fo ((acc++[s])++gp (s.kids.drop 0))])=_;rw [gJ,iU];rfl
abbrev oF:AV:= J [.dC 35 [] [.ptr 0 0 0,.ptr 1 0 0]]
def OV{cs xs:bl}(h:xs.length=cs.length):setAt cs 0 xs=xs:=by
 apply PS;intro j;rw [Ft xs cs 0 (by omega) j]
 by_cases hj:j<xs.length
 ·rw [if_pos (by omega),Nat.sub_zero]
 ·rw [if_neg (by omega),yl (by omega),yl (by omega)]
def Jv(s:CS):(encS s).length =21:=CO
def aDn(s:CS):setAt Lm 0 (encS s)=encS s:=OV (by rw [Jv];rfl)
def aCw{α:Type}(l:List α)(x y:α):(l++[x]).set l.length y=l++[y]:=by
 rw [ahH _ _ (fk _),JB];rfl
def aDR(l:aW)(x:Row):gA (l++[x]) l.length=x:=by simp [gA,List.getD]
def Lk:∀s:CS,s.Ok->∀acc:List CS,acc.length+(ez s).length <=pX->Ev ya [aS s,J [.aC 2],oF,fo acc] (0,[J [.aC 3],oF,fo (acc++ez s)]):=by
 refine CS.ind λs ih bz acc hb=> ?_;cases bz with|mk _ hf hL hD hH hA h1 h2 hk=>
 rw [FP]at hb⊢;simp only [mf,e7,pX]at hb;have kD:=fH (m:=s.D.length) (P:=λi=>∀acc:List CS,acc.length+(iN (s.D.drop i)).length <=pX->bP MT [dh (s.D.map cj),iI (ln (s.D.map cj)),iI (i:Int),J [.aC 4],oF,J [.ptr 1 0 0],fo acc] (0,[J [.aC 4],oF,J [.ptr 1 0 0],fo (acc++iN (s.D.drop i))]))
  (λacc _=>by
    rw [gK];exact bD ac4 (ax dY (af (by simp [iN]))))
  λi hi fr acc jb=>by
   have hm:=dy hi;have gd:dJ (gA (s.D.map cj) ((i:Int).toNat))=encS s.D[i].d :=Zd;have gu:cP dG 21 (gA (s.D.map cj) ((i:Int).toNat))=encS s.D[i].u :=Zc;have e:iN (s.D.drop i)=ez s.D[i].d ++(ez s.D[i].u ++iN (s.D.drop (i+1))):=by rw [fW hi];simp only [iN,YI,iU]
   rw [e]at jb⊢;simp only [e7]at jb;have j1:=ih s.D[i].d (qh hm).1 (hk _ (qh hm).1) acc (by omega);have j2:=ih s.D[i].u (qh hm).2 (hk _ (qh hm).2) (acc++ez s.D[i].d) (J8);refine bD ac4 (br (dx hi) (aH (cN hi) ?_));rw [gd,gu,ix hi hD];refine aj j1 (aj j2 ?_);have:=fr ((acc++ez s.D[i].d)++ez s.D[i].u) (Gi);rw [<-iU,<-iU];exact this
 have kL:=fH (m:=s.L.length) (P:=λi=>∀acc:List CS,acc.length+(gp (s.L.drop i)).length <=pX->bP MS [bC (s.L.map encS),iI (ln (s.L.map encS)),iI (i:Int),J [.aC 4],oF,J [.ptr 1 0 0],fo acc] (0,[J [.aC 4],oF,J [.ptr 1 0 0],fo (acc++gp (s.L.drop i))]))
  (λacc _=>by
    rw [gK];exact bD ac3 (ax dY (af (by simp [gp]))))
  λi hi fr acc jb=>by
   have hm:=dy hi;have gs:dJ (gA (s.L.map encS) ((i:Int).toNat))=encS s.L[i]:=J5;have e:=Xs hi;rw [e]at jb⊢;simp only [e7]at jb;have j1:=ih s.L[i] (xo hm) (hk _ (xo hm)) acc (by omega);refine bD ac3 (br (dx hi) (aH (cN hi) ?_));rw [gs,ix hi hL];refine aj j1 ?_;rw [<-iU];exact fr (acc++ez s.L[i]) (Gi)
 have kH:=fH (m:=s.H.length) (P:=λi=>∀acc:List CS,acc.length+(j8 (s.H.drop i)).length <=pX->bP Ib [dg (s.H.map cz),iI (ln (s.H.map cz)),iI (i:Int),J [.aC 4],oF,J [.ptr 1 0 0],fo acc] (0,[J [.aC 4],oF,J [.ptr 1 0 0],fo (acc++j8 (s.H.drop i))]))
  (λacc _=>by
    rw [gK];exact bD ac2 (ax dY (af (by simp [j8]))))
  λi hi fr acc jb=>by
   have hm:=dy hi;have gs:cP dG 1 (gA (s.H.map cz) ((i:Int).toNat))=encS s.H[i].body :=by rw [fK hi,RG]
   have e:j8 (s.H.drop i)=ez s.H[i].body ++j8 (s.H.drop (i+1)):=by rw [fW hi];simp only [j8,YH]
   rw [e]at jb⊢;simp only [e7]at jb;have j1:=ih s.H[i].body (AN hm) (hk _ (AN hm)) acc (by omega);refine bD ac2 (br (dx hi) (aH (cN hi) ?_));rw [gs,ix hi hH];refine aj j1 ?_;rw [<-iU];exact fr (acc++ez s.H[i].body) (Gi)
 have kA:=fH (m:=s.A.length) (P:=λi=>∀acc:List CS,acc.length+(kc (s.A.drop i)).length <=pX->bP Ia [c8 (s.A.map cu),iI (ln (s.A.map cu)),iI (i:Int),J [.aC 4],oF,J [.ptr 1 0 0],fo acc] (0,[J [.aC 4],oF,J [.ptr 1 0 0],fo (acc++kc (s.A.drop i))]))
  (λacc _=>by
    rw [gK];exact bD ac1 (ax dY (af (by simp [kc]))))
  λi hi fr acc jb=>by
   have hm:=dy hi;have gd:cP dG 12 (gA (s.A.map cu) ((i:Int).toNat))=encS s.A[i].body :=by rw [fK hi,GM]
   have gu:cP dG 33 (gA (s.A.map cu) ((i:Int).toNat))=encS s.A[i].after :=by rw [fK hi,GN]
   have e:kc (s.A.drop i)=ez s.A[i].body ++(ez s.A[i].after ++kc (s.A.drop (i+1))):=by rw [fW hi];simp only [kc,YJ,iU]
   rw [e]at jb⊢;simp only [e7]at jb;have j1:=ih s.A[i].body (qi hm).1 (hk _ (qi hm).1) acc (by omega);have j2:=ih s.A[i].after (qi hm).2 (hk _ (qi hm).2) (acc++ez s.A[i].body) (J8);refine bD ac1 (br (dx hi) (aH (cN hi) ?_));rw [gd,gu,ix hi hA];refine aj j1 (aj j2 ?_);have:=fr ((acc++ez s.A[i].body)++ez s.A[i].after) (Gi);rw [<-iU,<-iU];exact this
 have nX:(ln (acc.map encS)).toNat =(acc.map encS).length :=by show(((acc.map encS).length :Nat):Int).toNat =_;exact mU _
 have ef:Ev WY [aS s] (0,[aS s]):=bx azs (af (by rw [fF]));have jD:bK M3 [J [.aC 5],oF,J [.ptr 1 0 0],aS s,fo (acc++[s])] (0,[J [.aC 5],oF,J [.ptr 1 0 0],aS s,fo ((acc++[s])++iN s.D)]):=by
  refine bW asP ?_;rw [abR,fF];exact aj (kD (acc++[s]) (Rf)).diag (af (by rw [gJ];rfl))
 have jL:bK MZ [J [.aC 5],oF,J [.ptr 1 0 0],aS s,fo ((acc++[s])++iN s.D)] (0,[J [.aC 5],oF,J [.ptr 1 0 0],aS s,fo (((acc++[s])++iN s.D)++gp s.L)]):=by
  refine bW asO ?_;rw [apg,fF];exact aj (kL ((acc++[s])++iN s.D) (Rf)).diag (af (by rw [gJ];rfl))
 have kH0:=kH (((acc++[s])++iN s.D)++gp s.L) (Rf);have kA0:=kA ((((acc++[s])++iN s.D)++gp s.L)++j8 s.H) (Rf);rw [gJ]at kH0 kA0;refine bx aAj (aH (w9) (aH ?_ (aH ?_ ?_)))
 ·show ib (((acc.map encS).length :Nat):Int) _=true;exact qM (by simp)
 ·rw [nX];simp
 ·rw [fF,nX,aDR,aDn,aCw];rw [show bC (acc.map encS++[encS s])=fo (acc++[s])from(ak2 acc [s]).symm];refine aj ef ?_;show E (λN _=>bO (M3 (FU CX EE N) N [J [.aC 5],oF,J [.ptr 1 0 0],J (dJ (encS s)),fo (acc++[s])]) _) _;rw [fF];refine aj jD ?_;show E (λN _=>bO (MZ (FU CX EE N) N [J [.aC 5],oF,J [.ptr 1 0 0],J (dJ (encS s)),fo ((acc++[s])++iN s.D)]) _) _;rw [fF];refine aj jL ?_;show E (λN _=>bO (Ib (FU CX EE N) N N [dg (gR (encS s) 19),iI (ln (gR (encS s) 19)),iI 0,J [.aC 4],oF,J [.ptr 1 0 0],fo (((acc++[s])++iN s.D)++gp s.L)]) λ_ cV=>bO (Ia (FU CX EE N) N N [c8 (gR (encS s) 20),iI (ln (gR (encS s) 20)),iI 0,J [.aC 4],oF,J [.ptr 1 0 0],bC (gR cV 3)]) _) _;rw [abQ,abS];refine aj kH0.diag (aj kA0.diag (af ?_));show(0,[J [.aC 3],oF,fo (((((acc++[s])++iN s.D)++gp s.L)++j8 s.H)++kc s.A)])=_;simp only [iU,kK,mE]
section
variable {p:PG} (hp:p.Ok)
include hp in
theorem aOY(hn:(fV p.tasks).length <=pX)(h:Ev zW [aG p] (0,[cw])):Ev XR [aG p] (0,[fo (fV p.tasks)]):=by
 have k:=fH (m:=p.tasks.length) (P:=λi=>∀acc:List CS,acc.length+(fV (p.tasks.drop i)).length <=pX->bP N0 [fZ (p.tasks.map cF),iI (ln (p.tasks.map cF)),iI (i:Int),J [.dC 35 [] [.ptr 1 0 0,.ptr 0 0 0]],J [.aC 2],fo acc] (0,[J [.dC 35 [] [.ptr 1 0 0,.ptr 0 0 0]],J [.aC 2],fo (acc++fV (p.tasks.drop i))]))
  (λacc _=>by
    rw [gK];exact bD aeI (ax dY (af (by simp [fV]))))
  λi hi ih acc hb=>by
   have hk:=hp.task _ (dy hi);have gb:cP dG 2 (gA (p.tasks.map cF) ((i:Int).toNat))=encS p.tasks[i].body :=by rw [fK hi,RF]
   have e:fV (p.tasks.drop i)=ez p.tasks[i].body ++fV (p.tasks.drop (i+1)):=by rw [fW hi];rfl
   rw [e]at hb⊢;simp only [e7]at hb;have j:=Lk p.tasks[i].body hk.body acc (by omega);refine bD aeI (br (dx hi) (aH (cN hi) ?_));rw [gb,ix hi hp.tasks];refine aj j ?_;rw [<-iU];exact ih (acc++ez p.tasks[i].body) (Gi)
 have k0:=k [] (by rw [gJ];simpa using hn);rw [gJ]at k0;exact bx aBx (aj h (bj (aj k0.diag aL)))
include hp in
theorem aOX(hn:(fV p.tasks).length <=pX)(h:Ev yi [aG p] (0,[cw])):Ev Yq [aG p] (0,[fo (fV p.tasks)]):=by
 have k:=fH (m:=p.tasks.length) (P:=λi=>∀acc:List CS,acc.length+(fV (p.tasks.drop i)).length <=pX->bP Oe [iI (i:Int),aG p,fo acc] (0,[aG p,fo (acc++fV (p.tasks.drop i))]))
  (λacc _=>by
    rw [gK];exact bD ae6 (ax (dY (f:=cF) (l:=p.tasks)) (af (by simp [fV];rfl))))
  λi hi ih acc hb=>by
   have hk:=hp.task _ (dy hi);have gb:cP dG 2 (gA (gR (nf p) 2) ((i:Int).toNat))=encS p.tasks[i].body :=aaj;have e:fV (p.tasks.drop i)=ez p.tasks[i].body ++fV (p.tasks.drop (i+1)):=by rw [fW hi];rfl
   rw [e]at hb⊢;simp only [e7]at hb;have j:=Lj p.tasks[i].body hk.body acc (by omega);refine bD ae6 (br (dx (f:=cF) hi) (aH (cN (f:=cF) hi) ?_));rw [gb,ix hi hp.tasks];refine aj j ?_;rw [<-iU];exact ih (acc++ez p.tasks[i].body) (Gi)
 have k0:=k [] (by rw [gJ];simpa using hn);rw [gJ]at k0;exact bx aB0 (aj h (bj (aj k0.diag aL)))
theorem aEI:∀s:CS,s.Ok->∃m:Int,Ev OP [aS s] (0,[iI m]):=by
 refine CS.ind λs ih bz=> ?_;have kv:∀y∈s.kids,y.Ok:=Gv;have kl:=Jt bz;have k:=fH (m:=s.kids.length) (P:=λi=>∀x:Int,∃m:Int,bP NI [iI x,iI (i:Int),fo s.kids] (0,[iI m,fo s.kids]))
  (λx=>⟨x,bD aeh (ax dY aL)⟩)
  λi hi fr x=>by
   have hm:=dy hi;have gs:dJ (gA (s.kids.map encS) ((i:Int).toNat))=encS s.kids[i]:=J5;obtain⟨m1,j⟩:=ih s.kids[i] hm (kv _ hm);obtain⟨m2,j2⟩:=fr (bw (x+m1));refine⟨m2,bD aeh (br (dx hi) (aH (cN hi) (aH (toN_lt (cN hi)) ?_)))⟩;rw [gs,FG (by omega)];exact aj j j2
 obtain⟨m,k0⟩:=k 1;refine⟨m,bx aAY ?_⟩;rw [fF];exact aj (Sl bz) (aj k0.diag aL)
include hp in
theorem aEW:∃b,Ev Xw [aG p] (0,[ak b]):=by
 have j6:∃b,bK W6 [aG p] (bif b then(1,[cw,aG p])else(0,[aG p])):=by
  refine⟨bif decide (200<ln (cb p.bu))then true else bif decide (40<ln (p.tasks.map cF))then true else decide (40<ln (p.dw.map fA)),bW azn (aw (c:=decide (200<ln (cb p.bu))) (λa=>af (sO)) λa=>aw (c:=decide (40<ln (p.tasks.map cF))) (λb=>af (oM)) λb=>aw (c:=decide (40<ln (p.dw.map fA))) (λc=>af (wS)) λc=>af (wS))⟩
 have k:=fH (m:=p.tasks.length) (P:=λi=>∀x:Int,∃b,bP IM [iI x,iI (i:Int),aG p] (bif b then(0,[cw,aG p])else(1,[aG p])))
  (λx=>⟨false,bD ael (ax (dY (f:=cF) (l:=p.tasks)) aL)⟩)
  λi hi ih x=>by
   have hk:=hp.task _ (dy hi);have gb:cP dG 2 (gA (gR (nf p) 2) ((i:Int).toNat))=encS p.tasks[i].body :=aaj;have ge:gR (gA (gR (nf p) 2) ((i:Int).toNat)) 1=p.tasks[i].au.map iP:=by
    show gR (gA (p.tasks.map cF) ((i:Int).toNat)) 1=_;rw [fK hi,abP]
   obtain⟨m,j⟩:=aEI p.tasks[i].body hk.body;have C:∀r:UO,_->bP IM [iI x,iI (i:Int),aG p] r:=λr h=>by
    refine bD ael (br (dx (f:=cF) hi) (aH (cN (f:=cF) hi) ?_));rw [gb,ge];refine aj j ?_;exact h
   cases h1:decide (9000<bw (x+m))with
   |true=>exact⟨true,C _ (br h1 aL)⟩
   |false=>
    cases h2:decide (20<ln (p.tasks[i].au.map iP))with
    |true=>exact⟨true,C _ (ax h1 (aH (cN (f:=cF) hi) (br h2 aL)))⟩
    |false=>
     obtain⟨b,i2⟩:=ih (bw (x+m));rw [<-ix hi hp.tasks]at i2;exact⟨b,C _ (ax h1 (aH (cN (f:=cF) hi) (ax h2 i2)))⟩
 obtain⟨b,j⟩:=j6;obtain⟨b2,k0⟩:=k 0;cases b with
 |true=>exact⟨true,bx Xi (aj j (bj aL))⟩
 |false=>
  cases b2 with
  |true=>exact⟨true,bx Xi (aj j (aY (aj k0.diag (aY aL))))⟩
  |false=>exact⟨false,bx Xi (aj j (aY (aj k0.diag (bj aL))))⟩
end
end Go.Proofs.YtomkobcipaligaaGreatDoor
namespace Go.aA
def al9{p:Prop}(h:p:=by
 have i1:=zg (g:=g) d n b hn;have l1:=i1.lo hn
 by_cases h0:(bN d n b).2 <0
 ·rw [if_pos h0];exact i1.then hn ⟨λh=>⟨rfl,h⟩,λh=>by omega⟩
 ·rw [if_neg h0];have i2:=zg (g:=g) u (bN d n b).2 b (by omega);exact i1.then hn ⟨λh=>by omega,λ_=>i2⟩):p:=h
def Ku{p:Prop}(h:p:=by
 rw [if_pos h0];exact⟨λh=>⟨rfl,h⟩,λh=>by omega⟩):p:=h
def Kf{p:Prop}(h:p:=by exact⟨λh=>by omega,λh=>i1.then h i2⟩):p:=h
end Go.aA
namespace Go.Proofs.YtomkobcipaligaaGreatDoor
open Go Go.aA
section
variable{b:CS}{g:dk->Nat}{n n':Int}{P P':List CS}
mutual
def bN:CS->Int->CS->CS×Int
 | .mk f l d h a,n,b=>if n=0 then(b,-1)else
    (.mk f (fQ l (e8 d (n- 1) b).2 b).1 (e8 d (n- 1) b).1 (gZ h (fQ l (e8 d (n- 1) b).2 b).2 b).1 (jh a (gZ h (fQ l (e8 d (n- 1) b).2 b).2 b).2 b).1,(jh a (gZ h (fQ l (e8 d (n- 1) b).2 b).2 b).2 b).2)
def fQ:List CS->Int->CS->List CS×Int
 | [],n,_=>([],n)
 |s::ss,n,b=>if n<0 then(s::ss,n)else((bN s n b).1 ::(fQ ss (bN s n b).2 b).1,(fQ ss (bN s n b).2 b).2)
def e8:List CD->Int->CS->List CD×Int
 | [],n,_=>([],n)
 |s::ss,n,b=>if n<0 then(s::ss,n)else((kP s n b).1 ::(e8 ss (kP s n b).2 b).1,(e8 ss (kP s n b).2 b).2)
def kP:CD->Int->CS->CD×Int
 | .mk d u,n,b=>if(bN d n b).2 <0 then(.mk (bN d n b).1 u,(bN d n b).2)else(.mk (bN d n b).1 (bN u (bN d n b).2 b).1,(bN u (bN d n b).2 b).2)
def gZ:List CH->Int->CS->List CH×Int
 | [],n,_=>([],n)
 |s::ss,n,b=>if n<0 then(s::ss,n)else((qU s n b).1 ::(gZ ss (qU s n b).2 b).1,(gZ ss (qU s n b).2 b).2)
def qU:CH->Int->CS->CH×Int
 | .mk e x,n,b=>(.mk e (bN x n b).1,(bN x n b).2)
def jh:List CA->Int->CS->List CA×Int
 | [],n,_=>([],n)
 |s::ss,n,b=>if n<0 then(s::ss,n)else((kQ s n b).1 ::(jh ss (kQ s n b).2 b).1,(jh ss (kQ s n b).2 b).2)
def kQ:CA->Int->CS->CA×Int
 | .mk k g m e x y,n,b=>if(bN x n b).2 <0 then(.mk k g m e (bN x n b).1 y,(bN x n b).2)else(.mk k g m e (bN x n b).1 (bN y (bN x n b).2 b).1,(bN y (bN x n b).2 b).2)
end
def Wt(g:dk->Nat)(P:List CS):Nat:=(P.map λy=>g y.f).sum
def JM(x:CS)(P:List CS):Wt g (x::P)=g x.f+Wt g P:=rfl
def vt(P Q:List CS):Wt g (P++Q)=Wt g P+Wt g Q:=by unfold Wt;rw [oi,List.sum_append]
def aFg(P:List CS):Wt (λ_=>1) P=P.length:=by
 induction P with
 |nil=>rfl
 |cons x P ih=>rw [JM,ih,mf];omega
structure Pt(g:dk->Nat)(P P':List CS)(n n':Int)(b:CS):Prop where
 hit:n<(P.length:Int)->n'= -1∧∀c,P[n.toNat]?=some c->Wt g P'+Wt g (ez c)=Wt g P+Wt g (ez b)
 KV:(P.length:Int)<=n->Wt g P'=Wt g P∧n'=n- P.length
def Pl(g:dk->Nat)(P P':List CS)(n n':Int)(b:CS):Prop:=(n= -1->Wt g P'=Wt g P∧n'= -1)∧(0<=n->Pt g P P' n n' b)
def Pt.then{Q Q':List CS}{Ly:Int}(h0:0<=n)(h:Pt g P P' n n' b)(k:Pl g Q Q' n' Ly b):Pt g (P++Q) (P'++Q') n Ly b:=by
 constructor
 ·intro hn;rw [e7]at hn
  by_cases hp:n<(P.length:Int)
  ·obtain⟨h1,h2⟩:=h.hit hp;obtain⟨k1,k2⟩:=k.1 h1;refine⟨k2,λc hc=> ?_⟩;rw [jH (by omega)]at hc;have:=h2 c hc;simp only [vt];omega
  ·obtain⟨h1,h2⟩:=h.KV (by omega);have kk:=k.2 (by omega);obtain⟨k1,k2⟩:=kk.hit (by omega);refine⟨k1,λc hc=> ?_⟩;rw [kZ (by omega),show n.toNat- P.length=n'.toNat by omega]at hc;have:=k2 c hc;simp only [vt];omega
 ·intro hn;simp only [e7,vt]at hn⊢;obtain⟨h1,h2⟩:=h.KV (by omega);obtain⟨k1,k2⟩:=(k.2 (by omega)).KV (by omega);exact⟨by omega,by omega⟩
def Pl.then{g:dk->Nat}{P P' Q Q':List CS}{n n' Ly:Int}{b:CS}(h:Pl g P P' n n' b)(k:Pl g Q Q' n' Ly b):Pl g (P++Q) (P'++Q') n Ly b:=by
 refine⟨λhn=> ?_,λhn=>Pt.then hn (h.2 hn) k⟩;obtain⟨h1,h2⟩:=h.1 hn;obtain⟨k1,k2⟩:=k.1 h2;exact⟨by simp only [vt];omega,k2⟩
def Pl.nil:Pl g [] [] n n b:=⟨λh=>⟨rfl,h⟩,λh=>⟨λh2=>by simp at h2;omega,λh2=>⟨rfl,by simp⟩⟩⟩
def Pt.lo(h:Pt g P P' n n' b)(h0:0<=n):(n'= -1∨0<=n')∧n'<=n:=by
 by_cases hp:n<(P.length:Int)
 ·have:=(h.hit hp).1;omega
 ·have:=(h.KV (by omega)).2;omega
def Pl.lo{g:dk->Nat}{P P':List CS}{n n':Int}{b:CS}(h:Pl g P P' n n' b)(h0:n= -1∨0<=n):(n'= -1∨0<=n')∧n'<=n:=by
 rcases h0 with h0|h0
 ·have:=(h.1 h0).2;omega
 ·exact(h.2 h0).lo h0
mutual
theorem zg{g:dk->Nat}:∀(s:CS) (n:Int) (b:CS),0<=n->Pt g (ez s) (ez (bN s n b).1) n (bN s n b).2 b
 | .mk f l d h a,n,b,hn=>by
   simp only [bN]
   by_cases h0:n=0
   ·subst h0;rw [if_pos rfl];refine⟨λ_=>⟨rfl,λc hc=> ?_⟩,λh2=> ?_⟩
    ·rw [show(0:Int).toNat =0 from rfl]at hc;simp only [ez,FE]at hc;injection hc with hc;subst hc;exact Nat.add_comm _ _
    ·simp only [ez,mf]at h2;omega
   ·rw [if_neg h0];have i1:=lpD (g:=g) d (n- 1) b (by omega);have l1:=i1.lo (by omega);have i2:=lpS (g:=g) l _ b l1.1;have l2:=i2.lo l1.1;have i3:=lpH (g:=g) h _ b l2.1;have l3:=i3.lo l2.1;have i4:=lpA (g:=g) a _ b l3.1;have t:=i1.then (i2.then (i3.then i4));have tt:=t.2 (by omega);simp only [ez];refine⟨λh2=> ?_,λh2=> ?_⟩
    ·simp only [mf,JM,CS.f]at h2⊢;obtain⟨q1,q2⟩:=tt.hit (by omega);refine⟨q1,λc hc=> ?_⟩;rw [show n.toNat=(n- 1).toNat +1 by omega,X5]at hc;have:=q2 c hc;omega
    ·simp only [mf,JM,CS.f]at h2⊢;obtain⟨q1,q2⟩:=tt.KV (by omega);exact⟨by omega,by omega⟩
theorem lpS{g:dk->Nat}:∀(l:List CS) (n:Int) (b:CS),(n= -1∨0<=n)->Pl g (gp l) (gp (fQ l n b).1) n (fQ l n b).2 b
 | [],n,b,_=>by simp only [gp,fQ];exact Pl.nil
 |s::ss,n,b,hn=>by
  simp only [fQ]
  by_cases h0:n<0
  ·exact Ku
  ·rw [if_neg h0];have i1:=zg (g:=g) s n b (by omega);have i2:=lpS (g:=g) ss _ b (i1.lo (by omega)).1;exact Kf
theorem lpD{g:dk->Nat}:∀(l:List CD) (n:Int) (b:CS),(n= -1∨0<=n)->Pl g (iN l) (iN (e8 l n b).1) n (e8 l n b).2 b
 | [],n,b,_=>by simp only [iN,e8];exact Pl.nil
 |s::ss,n,b,hn=>by
  simp only [e8]
  by_cases h0:n<0
  ·exact Ku
  ·rw [if_neg h0];have i1:=ptD (g:=g) s n b (by omega);have i2:=lpD (g:=g) ss _ b (i1.lo (by omega)).1;exact Kf
theorem ptD{g:dk->Nat}:∀(s:CD) (n:Int) (b:CS),0<=n->Pt g (AJ s) (AJ (kP s n b).1) n (kP s n b).2 b
 | .mk d u,n,b,hn=>by
   simp only [kP];exact al9
theorem lpH{g:dk->Nat}:∀(l:List CH) (n:Int) (b:CS),(n= -1∨0<=n)->Pl g (j8 l) (j8 (gZ l n b).1) n (gZ l n b).2 b
 | [],n,b,_=>by simp only [j8,gZ];exact Pl.nil
 |s::ss,n,b,hn=>by
  simp only [gZ]
  by_cases h0:n<0
  ·exact Ku
  ·rw [if_neg h0];have i1:=ptH (g:=g) s n b (by omega);have i2:=lpH (g:=g) ss _ b (i1.lo (by omega)).1;exact Kf
theorem ptH{g:dk->Nat}:∀(s:CH) (n:Int) (b:CS),0<=n->Pt g (yP s) (yP (qU s n b).1) n (qU s n b).2 b
 | .mk e x,n,b,hn=>by simp only [yP,qU];exact zg x n b hn
theorem lpA{g:dk->Nat}:∀(l:List CA) (n:Int) (b:CS),(n= -1∨0<=n)->Pl g (kc l) (kc (jh l n b).1) n (jh l n b).2 b
 | [],n,b,_=>by simp only [kc,jh];exact Pl.nil
 |s::ss,n,b,hn=>by
  simp only [jh]
  by_cases h0:n<0
  ·exact Ku
  ·rw [if_neg h0];have i1:=ptA (g:=g) s n b (by omega);have i2:=lpA (g:=g) ss _ b (i1.lo (by omega)).1;exact Kf
theorem ptA{g:dk->Nat}:∀(s:CA) (n:Int) (b:CS),0<=n->Pt g (AK s) (AK (kQ s n b).1) n (kQ s n b).2 b
 | .mk k v m e d u,n,b,hn=>by
   simp only [kQ];exact al9
end
end
end Go.Proofs.YtomkobcipaligaaGreatDoor
namespace Go.aA
def akp{p:Prop}(h:p:=by
 cases x with
 |mk k g n e b a=>cases g;cases b;cases a;cases y;kernel_rfl):p:=h
end Go.aA
namespace Go.Proofs.YtomkobcipaligaaGreatDoor
open Go Go.aA
section
variable{α:Type}
def rU(f:α->Row)(a:List α)(x:α)(b:List α):gA ((a++x::b).map f) ((a.length:Int).toNat)=f x:=by
 rw [mU,sQ (by simp)];simp
def Ct(f:α->Row)(a:List α)(x:α)(b:List α)(y:α):((a++x::b).map f).set ((a.length:Int).toNat) (f y)=((a++[y])++b).map f:=by
 rw [mU,oi,nu,iU,oi];have:a.length=(a.map f).length :=by simp
 rw [this,ahH _ _ (fk _),JB];rfl
def PD(d:CD):(cj d).length =42:=by
 cases d with
 |mk x y=>show(encS x++encS y).length =42;rw [e7,Jv,Jv]
def aNI(x y:CS):sT (BN (encS x)) [(21,bE (gI (encS y) 0)),(22,iI (gI (encS y) 1)),(23,iI (gI (encS y) 2)),(24,iI (gI (encS y) 3)),(25,iI (gI (encS y) 4)),(26,iI (gI (encS y) 5)),(27,ak (gB (encS y) 6)),(28,ak (gB (encS y) 7)),(29,ak (gB (encS y) 8)),(30,ak (gB (encS y) 9)),(31,ak (gB (encS y) 10)),(32,bE (gI (encS y) 11)),(33,aT (gR (encS y) 12)),(34,aT (gR (encS y) 13)),(35,bH (gR (encS y) 14)),(36,bH (gR (encS y) 15)),(37,aa (gR (encS y) 16)),(38,bC (gR (encS y) 17)),(39,dh (gR (encS y) 18)),(40,dg (gR (encS y) 19)),(41,c8 (gR (encS y) 20))]=cj (.mk x y):=by
 cases x;cases y;kernel_rfl
def aNH(x:CS)(d:CD):sT (BN (encS x)) [(21,bE (gI (cj d) 21)),(22,iI (gI (cj d) 22)),(23,iI (gI (cj d) 23)),(24,iI (gI (cj d) 24)),(25,iI (gI (cj d) 25)),(26,iI (gI (cj d) 26)),(27,ak (gB (cj d) 27)),(28,ak (gB (cj d) 28)),(29,ak (gB (cj d) 29)),(30,ak (gB (cj d) 30)),(31,ak (gB (cj d) 31)),(32,bE (gI (cj d) 32)),(33,aT (gR (cj d) 33)),(34,aT (gR (cj d) 34)),(35,bH (gR (cj d) 35)),(36,bH (gR (cj d) 36)),(37,aa (gR (cj d) 37)),(38,bC (gR (cj d) 38)),(39,dh (gR (cj d) 39)),(40,dg (gR (cj d) 40)),(41,c8 (gR (cj d) 41))]=cj (.mk x d.u):=by
 cases d with
 |mk a y=>cases x;cases a;cases y;kernel_rfl
def aNG(x:CH)(y:CS):setAt (cz x) 1 (encS y)=cz (.mk x.eL y):=by
 cases x with
 |mk e b=>cases b;cases y;kernel_rfl
def aNK(x:CA)(y:CS):setAt (cu x) 12 (encS y)=cu (.mk x.kind x.guard x.entry x.E y x.after):=akp
def aNJ(x:CA)(y:CS):setAt (cu x) 33 (encS y)=cu (.mk x.kind x.guard x.entry x.E x.body y):=akp
end
end Go.Proofs.YtomkobcipaligaaGreatDoor
namespace Go.aA
def QQ{p:Prop}(h:p:=by rw [nX];simp only [mx]at hlen;simp;omega):p:=h
def Kc{p:Prop}(h:p:=by
 rw [if_pos hn];exact fin (.inl hn)):p:=h
def Kb{p:Prop}(h:p:=by rw [<-hr,wM];omega):p:=h
def Ka{p:Prop}(h:p:=by rw [dB];simp [hp]):p:=h
def J2{p:Prop}(h:p:=by rw [nX];omega):p:=h
end Go.aA
namespace Go.Proofs.YtomkobcipaligaaGreatDoor
open Go Go.aA
abbrev nB:Int:=4611686018427387904
abbrev fS(s:CS)(L D H A:aW):AV:= J (cZ s.f L D H A)
theorem amy(s:CS):aS s=fS s (s.L.map encS) (s.D.map cj) (s.H.map cz) (s.A.map cu):=by rw [aS,FY]
section
variable {s:CS} (bz:s.Ok) {b:CS}
def De(y:CS):Prop:=∀n:Int,0<=n->n<=nB->∀b:CS,Ev yj [aS y,iI n,aS b] (0,[aS (bN y n b).1,iI (bN y n b).2])
include bz in
theorem ptL(ih:∀y∈s.L,De y){D H A:aW}{n:Int}(h0:n= -1∨0<=n)(h1:n<=nB):
 bK OH [iI n,fS s (s.L.map encS) D H A,aS b] (0,[iI (fQ s.L n b).2,fS s ((fQ s.L n b).1.map encS) D H A,aS b]):=by
 have hL:s.L.length<=mx:=by cases bz with|mk _ hf hL hD hH hA h1 h2 hk=>exact hL
 have gb:dJ (encS b)=encS b:=fF b;have fin:∀{X:aW} {i n:Int},(n<0∨ln X<=i)->bP Fa [iI n,iI i,fS s X D H A,aS b] (0,[iI n,fS s X D H A,aS b]):=λ{X i n} h=>by
  have j:bK N6 [iI n,iI i,fS s X D H A] (1,[fS s X D H A]):=by
   refine bW aeO (aw (c:=decide (i<ln X)) (λa=>ax (c:=decide (0<=n)) ?_ aL) λ_=>aL);simp at a⊢;omega
  refine bD ae8 (aj j (bj ?_));rw [gb];exact aL
 have k:=fH (m:=s.L.length) (P:=λi=>∀n:Int,(n= -1∨0<=n)->n<=nB->∀Lp:List CS,Lp.length=i->bP Fa [iI n,iI (i:Int),fS s ((Lp++s.L.drop i).map encS) D H A,aS b] (0,[iI (fQ (s.L.drop i) n b).2,fS s ((Lp++(fQ (s.L.drop i) n b).1).map encS) D H A,aS b]))
  (λn _ _ Lp hp=>by
    rw [gK];simp only [fQ];exact fin (.inr (Ka)))
  λi hi fr n h0 h1 Lp hp=>by
   rw [fW hi];simp only [fQ]
   by_cases hn:n<0
   ·exact Kc
   ·rw [if_neg hn];have hm:=dy hi;have lo:=(zg (g:=λ_=>0) s.L[i] n b (by omega)).lo (by omega);have e:=ih _ hm n (by omega) h1 b;subst hp;generalize hx:s.L[Lp.length]'hi=x at*;generalize hr:s.L.drop (Lp.length+1)=rest at*;have hlen:Lp.length+(rest.length+1)<=mx:=by
     have:s.L.length=Lp.length+(rest.length+1):=Kb;omega
    have gs:dJ (gA ((Lp++x::rest).map encS) ((Lp.length:Int).toNat))=encS x:=by rw [rU,fF]
    have nX:((Lp++x::rest).map encS).length =Lp.length+(rest.length+1):=by simp
    have j:bK N6 [iI n,iI (Lp.length:Int),fS s ((Lp++x::rest).map encS) D H A] (0,[fS s ((Lp++x::rest).map encS) D H A]):=by
     refine bW aeO (br (c:=decide ((Lp.length:Int)<ln ((Lp++x::rest).map encS))) (sV) (br (c:=decide (0<=n)) (wW) aL))
    have fG:ib (Lp.length:Int) ((Lp++x::rest).map encS).length =true:=qM (J2);have yS:((Lp++x::rest).map encS).set ((Lp.length:Int).toNat) (setAt (gA ((Lp++x::rest).map encS) ((Lp.length:Int).toNat)) 0 (encS (bN x n b).1))=((Lp++[(bN x n b).1])++rest).map encS:=by
     rw [rU,OV (by rw [Jv,Jv]),Ct]
    have i2:=fr (bN x n b).2 lo.1 (by omega) (Lp++[(bN x n b).1]) (by simp);rw [<-yS,iU]at i2;rw [show aS b= J (dJ (encS b))by rw [gb],show aS x= J (dJ (gA ((Lp++x::rest).map encS) ((Lp.length:Int).toNat)))by rw [gs]]at e;refine bD ae8 (aj j (aY (aH ?_ (aH fG (aj e (aH fG (aH (toN_lt fG) ?_)))))))
    ·show decide ((0+((Lp++x::rest).map encS).length)*272<=140737488355328)=true;exact QQ
    ·rw [ix (n:=Lp.length+1) (by omega) (by omega)];have g1:dJ (gC [aS (bN x n b).1,iI (bN x n b).2] 0)=encS (bN x n b).1 :=fF _;show bP Fa [iI (bN x n b).2,iI ((Lp.length+1:Nat):Int),fS s (((Lp++x::rest).map encS).set ((Lp.length:Int).toNat) (setAt (gA ((Lp++x::rest).map encS) ((Lp.length:Int).toNat)) 0 (dJ (gC [aS (bN x n b).1,iI (bN x n b).2] 0)))) D H A,J (dJ (encS b))] _;rw [g1,gb];exact i2
 have:=k n h0 h1 [] rfl;rw [gJ]at this;refine bW az0 ?_;rw [gb];refine aj this.diag (af ?_);show(0,[iI _,fS s (([]++(fQ s.L n b).1).map encS) D H A,J (dJ (encS b))])=_;rw [gb];rfl
end
end Go.Proofs.YtomkobcipaligaaGreatDoor
namespace Go.aA
def JW{p:Prop}(h:p:=by simpa using hz):p:=h
end Go.aA
namespace Go.Proofs.YtomkobcipaligaaGreatDoor
open Go Go.aA
section
variable{n:Int}{A D H L:aW}
theorem JG(x:CH)(n:Int)(b:CS):qU x n b=(.mk x.eL (bN x.body n b).1,(bN x.body n b).2):=by cases x;simp only [qU];rfl
theorem YE(x:CD)(n:Int)(b:CS):kP x n b=if(bN x.d n b).2 <0 then(.mk (bN x.d n b).1 x.u,(bN x.d n b).2)else(.mk (bN x.d n b).1 (bN x.u (bN x.d n b).2 b).1,(bN x.u (bN x.d n b).2 b).2):=by cases x;simp only [kP];rfl
theorem YG(x:CA)(n:Int)(b:CS):kQ x n b=if(bN x.body n b).2 <0 then(.mk x.kind x.guard x.entry x.E (bN x.body n b).1 x.after,(bN x.body n b).2)else(.mk x.kind x.guard x.entry x.E (bN x.body n b).1 (bN x.after (bN x.body n b).2 b).1,(bN x.after (bN x.body n b).2 b).2):=by cases x;simp only [kQ];rfl
section
variable {s:CS} (bz:s.Ok) {b:CS}
include bz in
theorem aNc(ih:∀y∈s.H,De y.body)(h0:n= -1∨0<=n)(h1:n<=nB):
 bK Oi [iI n,fS s L D (s.H.map cz) A,aS b] (0,[iI (gZ s.H n b).2,fS s L D ((gZ s.H n b).1.map cz) A,aS b]):=by
 have hL:s.H.length<=mx:=by cases bz with|mk _ hf hL hD hH hA h1 h2 hk=>exact hH
 have gb:dJ (encS b)=encS b:=fF b;have fin:∀{X:aW} {i n:Int},(n<0∨ln X<=i)->bP E9 [iI n,iI i,fS s L D X A,aS b] (0,[iI n,fS s L D X A,aS b]):=λ{X i n} h=>by
  have j:bK N5 [iI n,iI i,fS s L D X A] (1,[fS s L D X A]):=by
   refine bW aeN (aw (c:=decide (i<ln X)) (λa=>ax (c:=decide (0<=n)) ?_ aL) λ_=>aL);simp at a⊢;omega
  refine bD ae7 (aj j (bj ?_));rw [gb];exact aL
 have k:=fH (m:=s.H.length) (P:=λi=>∀n:Int,(n= -1∨0<=n)->n<=nB->∀Lp:List CH,Lp.length=i->bP E9 [iI n,iI (i:Int),fS s L D ((Lp++s.H.drop i).map cz) A,aS b] (0,[iI (gZ (s.H.drop i) n b).2,fS s L D ((Lp++(gZ (s.H.drop i) n b).1).map cz) A,aS b]))
  (λn _ _ Lp hp=>by
    rw [gK];simp only [gZ];exact fin (.inr (Ka)))
  λi hi fr n h0 h1 Lp hp=>by
   rw [fW hi];simp only [gZ]
   by_cases hn:n<0
   ·exact Kc
   ·rw [if_neg hn];have hm:=dy hi;have lo:=(ptH (g:=λ_=>0) s.H[i] n b (by omega)).lo (by omega);have e:=ih _ hm n (by omega) h1 b;subst hp;have lo':=lo;generalize hx:s.H[Lp.length]'hi=x at*;generalize hr:s.H.drop (Lp.length+1)=rest at*;have hlen:Lp.length+(rest.length+1)<=mx:=by
     have:s.H.length=Lp.length+(rest.length+1):=Kb;omega
    have gs:cP dG 1 (gA ((Lp++x::rest).map cz) ((Lp.length:Int).toNat))=encS x.body:=by rw [rU,RG]
    have nX:((Lp++x::rest).map cz).length =Lp.length+(rest.length+1):=by simp
    have j:bK N5 [iI n,iI (Lp.length:Int),fS s L D ((Lp++x::rest).map cz) A] (0,[fS s L D ((Lp++x::rest).map cz) A]):=by
     refine bW aeN (br (c:=decide ((Lp.length:Int)<ln ((Lp++x::rest).map cz))) (sV) (br (c:=decide (0<=n)) (wW) aL))
    have fG:ib (Lp.length:Int) ((Lp++x::rest).map cz).length =true:=qM (J2);have yS:((Lp++x::rest).map cz).set ((Lp.length:Int).toNat) (setAt (gA ((Lp++x::rest).map cz) ((Lp.length:Int).toNat)) 1 (encS (bN x.body n b).1))=((Lp++[(qU x n b).1])++rest).map cz:=by
     rw [rU,aNG,Ct,JG]
    have i2:=fr (qU x n b).2 lo.1 (by omega) (Lp++[(qU x n b).1]) (by simp);rw [<-yS,iU]at i2;rw [show aS b= J (dJ (encS b))by rw [gb],show aS x.body= J (cP dG 1 (gA ((Lp++x::rest).map cz) ((Lp.length:Int).toNat)))by rw [gs]]at e;refine bD ae7 (aj j (aY (aH ?_ (aH fG (aj e (aH fG (aH (toN_lt fG) ?_)))))))
    ·show decide ((0+((Lp++x::rest).map cz).length)*296<=140737488355328)=true;exact QQ
    ·rw [ix (n:=Lp.length+1) (by omega) (by omega)];have g1:dJ (gC [aS (bN x.body n b).1,iI (bN x.body n b).2] 0)=encS (bN x.body n b).1 :=fF _;show bP E9 [iI (bN x.body n b).2,iI ((Lp.length+1:Nat):Int),fS s L D (((Lp++x::rest).map cz).set ((Lp.length:Int).toNat) (setAt (gA ((Lp++x::rest).map cz) ((Lp.length:Int).toNat)) 1 (dJ (gC [aS (bN x.body n b).1,iI (bN x.body n b).2] 0)))) A,J (dJ (encS b))] _;rw [g1,gb];rw [show(bN x.body n b).2 =(qU x n b).2 by rw [JG]];exact i2
 have:=k n h0 h1 [] rfl;rw [gJ]at this;refine bW azm ?_;rw [gb];refine aj this.diag (af ?_);show(0,[iI _,fS s L D (([]++(gZ s.H n b).1).map cz) A,J (dJ (encS b))])=_;rw [gb];rfl
include bz in
theorem aNe(ih:∀y∈s.A,De y.body∧De y.after)(h0:n= -1∨0<=n)(h1:n<=nB):
 bP xZ [iI n,iI 0,fS s L D H (s.A.map cu),aS b] (0,[iI (jh s.A n b).2,fS s L D H ((jh s.A n b).1.map cu),aS b]):=by
 have hL:s.A.length<=mx:=by cases bz with|mk _ hf hL hD hH hA h1 h2 hk=>exact hA
 have gb:dJ (encS b)=encS b:=fF b;have fin:∀{X:aW} {i n:Int},(n<0∨ln X<=i)->bP xZ [iI n,iI i,fS s L D H X,aS b] (0,[iI n,fS s L D H X,aS b]):=λ{X i n} h=>by
  have j:bK N4 [iI n,iI i,fS s L D H X] (1,[fS s L D H X]):=by
   refine bW aeM (aw (c:=decide (i<ln X)) (λa=>ax (c:=decide (0<=n)) ?_ aL) λ_=>aL);simp at a⊢;omega
  refine bD aeH (aj j (bj ?_));rw [gb];exact aL
 have k:=fH (m:=s.A.length) (P:=λi=>∀n:Int,(n= -1∨0<=n)->n<=nB->∀Lp:List CA,Lp.length=i->bP xZ [iI n,iI (i:Int),fS s L D H ((Lp++s.A.drop i).map cu),aS b] (0,[iI (jh (s.A.drop i) n b).2,fS s L D H ((Lp++(jh (s.A.drop i) n b).1).map cu),aS b]))
  (λn _ _ Lp hp=>by
    rw [gK];simp only [jh];exact fin (.inr (Ka)))
  λi hi fr n h0 h1 Lp hp=>by
   rw [fW hi];simp only [jh]
   by_cases hn:n<0
   ·exact Kc
   ·rw [if_neg hn];have hm:=dy hi;have lo:=(ptA (g:=λ_=>0) s.A[i] n b (by omega)).lo (by omega);have lo1:=(zg (g:=λ_=>0) s.A[i].body n b (by omega)).lo (by omega);have e:=(ih _ hm).1 n (by omega) h1 b;have e2:=(ih _ hm).2;subst hp;generalize hx:s.A[Lp.length]'hi=x at*;generalize hr:s.A.drop (Lp.length+1)=rest at*;have hlen:Lp.length+(rest.length+1)<=mx:=by
     have:s.A.length=Lp.length+(rest.length+1):=Kb;omega
    have gs:cP dG 12 (gA ((Lp++x::rest).map cu) ((Lp.length:Int).toNat))=encS x.body:=by rw [rU,GM]
    have gu:cP dG 33 (gA ((Lp++x::rest).map cu) ((Lp.length:Int).toNat))=encS x.after:=by rw [rU,GN]
    have nX:((Lp++x::rest).map cu).length =Lp.length+(rest.length+1):=by simp
    have j:bK N4 [iI n,iI (Lp.length:Int),fS s L D H ((Lp++x::rest).map cu)] (0,[fS s L D H ((Lp++x::rest).map cu)]):=by
     refine bW aeM (br (c:=decide ((Lp.length:Int)<ln ((Lp++x::rest).map cu))) (sV) (br (c:=decide (0<=n)) (wW) aL))
    have fG:ib (Lp.length:Int) ((Lp++x::rest).map cu).length =true:=qM (J2);have ev:decide ((0+((Lp++x::rest).map cu).length)*664<=140737488355328)=true:=QQ;rw [show aS b= J (dJ (encS b))by rw [gb],show aS x.body= J (cP dG 12 (gA ((Lp++x::rest).map cu) ((Lp.length:Int).toNat)))by rw [gs]]at e;have C:∀r:UO,_->bP xZ [iI n,iI (Lp.length:Int),fS s L D H ((Lp++x::rest).map cu),aS b] r:=λr h=>by
     refine bD aeH (aj j (aY (aH ev (aH fG (aj e (aH fG (aH (toN_lt fG) ?_)))))));exact h
    have wo:bw ((Lp.length:Int)+1)=((Lp.length+1:Nat):Int):=ix (n:=Lp.length+1) (by omega) (by omega);have gx:dJ (encS (bN x.body n b).1)=encS (bN x.body n b).1 :=fF _;have Rl:((Lp++x::rest).map cu).set ((Lp.length:Int).toNat) (setAt (gA ((Lp++x::rest).map cu) ((Lp.length:Int).toNat)) 12 (dJ (encS (bN x.body n b).1)))=((Lp++[(.mk x.kind x.guard x.entry x.E (bN x.body n b).1 x.after:CA)])++rest).map cu:=by
     rw [gx,rU,aNK,Ct]
    rw [YG]at lo⊢
    by_cases hz:(bN x.body n b).2 <0
    ·rw [if_pos hz]at lo⊢;have i2:=fr (bN x.body n b).2 lo1.1 (by omega) (Lp++[(.mk x.kind x.guard x.entry x.E (bN x.body n b).1 x.after:CA)]) (by simp);rw [<-Rl,iU,<-wo]at i2;refine C _ (ax (c:=decide (0<=(bN x.body n b).2)) (JW) ?_);rw [gb];exact i2
    ·rw [if_neg hz]at lo⊢;have gy:dJ (encS (bN x.after (bN x.body n b).2 b).1)=encS (bN x.after (bN x.body n b).2 b).1 :=fF _;have aap:(((Lp++x::rest).map cu).set ((Lp.length:Int).toNat) (setAt (gA ((Lp++x::rest).map cu) ((Lp.length:Int).toNat)) 12 (dJ (encS (bN x.body n b).1)))).set ((Lp.length:Int).toNat) (setAt (gA (((Lp++x::rest).map cu).set ((Lp.length:Int).toNat) (setAt (gA ((Lp++x::rest).map cu) ((Lp.length:Int).toNat)) 12 (dJ (encS (bN x.body n b).1)))) ((Lp.length:Int).toNat)) 33 (dJ (encS (bN x.after (bN x.body n b).2 b).1)))=((Lp++[(.mk x.kind x.guard x.entry x.E (bN x.body n b).1 (bN x.after (bN x.body n b).2 b).1 :CA)])++rest).map cu:=by
      rw [Rl,gy,iU,kK,mE,rU,aNJ,Ct];rfl
     have i2:=fr (bN x.after (bN x.body n b).2 b).2 lo.1 (by omega) (Lp++[(.mk x.kind x.guard x.entry x.E (bN x.body n b).1 (bN x.after (bN x.body n b).2 b).1 :CA)]) (by simp);rw [<-aap,iU,<-wo]at i2;have e3:=e2 (bN x.body n b).2 (by omega) (by omega) b;rw [show aS b= J (dJ (encS b))by rw [gb],show aS x.after= J (cP dG 33 (gA ((Lp++x::rest).map cu) ((Lp.length:Int).toNat)))by rw [gu]]at e3;refine C _ (br (c:=decide (0<=(bN x.body n b).2)) (JW) (aH fG (aj e3 (aH (by rw [zZ];exact fG) (aH (by rw [zZ];exact toN_lt fG) ?_)))));rw [gb];exact i2
 have:=k n h0 h1 [] rfl;rw [gJ]at this;exact this
include bz in
theorem aNd(ih:∀y∈s.D,De y.d∧De y.u)(h0:n= -1∨0<=n)(h1:n<=nB):
 bK Xm [iI n,fS s L (s.D.map cj) H A,aS b] (0,[iI (e8 s.D n b).2,fS s L ((e8 s.D n b).1.map cj) H A,aS b]):=by
 have hL:s.D.length<=mx:=by cases bz with|mk _ hf hL hD hH hA h1 h2 hk=>exact hD
 have gb:dJ (encS b)=encS b:=fF b;have fin:∀{X:aW} {i n:Int},(n<0∨ln X<=i)->bP B2 [iI n,iI i,fS s L X H A,aS b] (0,[iI n,fS s L X H A,aS b]):=λ{X i n} h=>by
  have j:bK Oh [iI n,iI i,fS s L X H A] (1,[fS s L X H A]):=by
   refine bW afc (aw (c:=decide (i<ln X)) (λa=>ax (c:=decide (0<=n)) ?_ aL) λ_=>aL);simp at a⊢;omega
  refine bD ae9 (aj j (bj ?_));rw [gb];exact aL
 have k:=fH (m:=s.D.length) (P:=λi=>∀n:Int,(n= -1∨0<=n)->n<=nB->∀Lp:List CD,Lp.length=i->bP B2 [iI n,iI (i:Int),fS s L ((Lp++s.D.drop i).map cj) H A,aS b] (0,[iI (e8 (s.D.drop i) n b).2,fS s L ((Lp++(e8 (s.D.drop i) n b).1).map cj) H A,aS b]))
  (λn _ _ Lp hp=>by
    rw [gK];simp only [e8];exact fin (.inr (Ka)))
  λi hi fr n h0 h1 Lp hp=>by
   rw [fW hi];simp only [e8]
   by_cases hn:n<0
   ·exact Kc
   ·rw [if_neg hn];have hm:=dy hi;have lo:=(ptD (g:=λ_=>0) s.D[i] n b (by omega)).lo (by omega);have lo1:=(zg (g:=λ_=>0) s.D[i].d n b (by omega)).lo (by omega);have e:=(ih _ hm).1 n (by omega) h1 b;have e2:=(ih _ hm).2;subst hp;generalize hx:s.D[Lp.length]'hi=x at*;generalize hr:s.D.drop (Lp.length+1)=rest at*;have hlen:Lp.length+(rest.length+1)<=mx:=by
     have:s.D.length=Lp.length+(rest.length+1):=Kb;omega
    have gs:dJ (gA ((Lp++x::rest).map cj) ((Lp.length:Int).toNat))=encS x.d:=by rw [rU,amN]
    have gu:cP dG 21 (gA ((Lp++x::rest).map cj) ((Lp.length:Int).toNat))=encS x.u:=by rw [rU,amM]
    have nX:((Lp++x::rest).map cj).length =Lp.length+(rest.length+1):=by simp
    have j:bK Oh [iI n,iI (Lp.length:Int),fS s L ((Lp++x::rest).map cj) H A] (0,[fS s L ((Lp++x::rest).map cj) H A]):=by
     refine bW afc (br (c:=decide ((Lp.length:Int)<ln ((Lp++x::rest).map cj))) (sV) (br (c:=decide (0<=n)) (wW) aL))
    have fG:ib (Lp.length:Int) ((Lp++x::rest).map cj).length =true:=qM (J2);have ev:decide ((0+((Lp++x::rest).map cj).length)*544<=140737488355328)=true:=QQ;rw [show aS b= J (dJ (encS b))by rw [gb],show aS x.d= J (dJ (gA ((Lp++x::rest).map cj) ((Lp.length:Int).toNat)))by rw [gs]]at e;have C:∀r:UO,_->bP B2 [iI n,iI (Lp.length:Int),fS s L ((Lp++x::rest).map cj) H A,aS b] r:=λr h=>by
     refine bD ae9 (aj j (aY (aH fG (aj e (aH fG ?_)))));exact h
    have wo:bw ((Lp.length:Int)+1)=((Lp.length+1:Nat):Int):=ix (n:=Lp.length+1) (by omega) (by omega);have gx:dJ (encS (bN x.d n b).1)=encS (bN x.d n b).1 :=fF _;have Rl:((Lp++x::rest).map cj).set ((Lp.length:Int).toNat) (setAt (gA ((Lp++x::rest).map cj) ((Lp.length:Int).toNat)) 0 (sT (BN (encS (bN x.d n b).1)) [(21,bE (gI (gA ((Lp++x::rest).map cj) ((Lp.length:Int).toNat)) 21)),(22,iI (gI (gA ((Lp++x::rest).map cj) ((Lp.length:Int).toNat)) 22)),(23,iI (gI (gA ((Lp++x::rest).map cj) ((Lp.length:Int).toNat)) 23)),(24,iI (gI (gA ((Lp++x::rest).map cj) ((Lp.length:Int).toNat)) 24)),(25,iI (gI (gA ((Lp++x::rest).map cj) ((Lp.length:Int).toNat)) 25)),(26,iI (gI (gA ((Lp++x::rest).map cj) ((Lp.length:Int).toNat)) 26)),(27,ak (gB (gA ((Lp++x::rest).map cj) ((Lp.length:Int).toNat)) 27)),(28,ak (gB (gA ((Lp++x::rest).map cj) ((Lp.length:Int).toNat)) 28)),(29,ak (gB (gA ((Lp++x::rest).map cj) ((Lp.length:Int).toNat)) 29)),(30,ak (gB (gA ((Lp++x::rest).map cj) ((Lp.length:Int).toNat)) 30)),(31,ak (gB (gA ((Lp++x::rest).map cj) ((Lp.length:Int).toNat)) 31)),(32,bE (gI (gA ((Lp++x::rest).map cj) ((Lp.length:Int).toNat)) 32)),(33,aT (gR (gA ((Lp++x::rest).map cj) ((Lp.length:Int).toNat)) 33)),(34,aT (gR (gA ((Lp++x::rest).map cj) ((Lp.length:Int).toNat)) 34)),(35,bH (gR (gA ((Lp++x::rest).map cj) ((Lp.length:Int).toNat)) 35)),(36,bH (gR (gA ((Lp++x::rest).map cj) ((Lp.length:Int).toNat)) 36)),(37,aa (gR (gA ((Lp++x::rest).map cj) ((Lp.length:Int).toNat)) 37)),(38,bC (gR (gA ((Lp++x::rest).map cj) ((Lp.length:Int).toNat)) 38)),(39,dh (gR (gA ((Lp++x::rest).map cj) ((Lp.length:Int).toNat)) 39)),(40,dg (gR (gA ((Lp++x::rest).map cj) ((Lp.length:Int).toNat)) 40)),(41,c8 (gR (gA ((Lp++x::rest).map cj) ((Lp.length:Int).toNat)) 41))]))=((Lp++[(.mk (bN x.d n b).1 x.u:CD)])++rest).map cj:=by
     rw [rU,aNH,OV (by rw [PD,PD]),Ct]
    rw [YE]at lo⊢
    by_cases hz:(bN x.d n b).2 <0
    ·rw [if_pos hz]at lo⊢;have i2:=fr (bN x.d n b).2 lo1.1 (by omega) (Lp++[(.mk (bN x.d n b).1 x.u:CD)]) (by simp);rw [<-Rl,iU,<-wo]at i2;refine C _ (ax (c:=decide (0<=(bN x.d n b).2)) (JW) (aH ev (aH fG (aH (toN_lt fG) ?_))));rw [gb];exact i2
    ·rw [if_neg hz]at lo⊢;have gy:dJ (encS (bN x.u (bN x.d n b).2 b).1)=encS (bN x.u (bN x.d n b).2 b).1 :=fF _;have aap:((Lp++x::rest).map cj).set ((Lp.length:Int).toNat) (setAt (gA ((Lp++x::rest).map cj) ((Lp.length:Int).toNat)) 0 (sT (BN (encS (bN x.d n b).1)) [(21,bE (gI (encS (bN x.u (bN x.d n b).2 b).1) 0)),(22,iI (gI (encS (bN x.u (bN x.d n b).2 b).1) 1)),(23,iI (gI (encS (bN x.u (bN x.d n b).2 b).1) 2)),(24,iI (gI (encS (bN x.u (bN x.d n b).2 b).1) 3)),(25,iI (gI (encS (bN x.u (bN x.d n b).2 b).1) 4)),(26,iI (gI (encS (bN x.u (bN x.d n b).2 b).1) 5)),(27,ak (gB (encS (bN x.u (bN x.d n b).2 b).1) 6)),(28,ak (gB (encS (bN x.u (bN x.d n b).2 b).1) 7)),(29,ak (gB (encS (bN x.u (bN x.d n b).2 b).1) 8)),(30,ak (gB (encS (bN x.u (bN x.d n b).2 b).1) 9)),(31,ak (gB (encS (bN x.u (bN x.d n b).2 b).1) 10)),(32,bE (gI (encS (bN x.u (bN x.d n b).2 b).1) 11)),(33,aT (gR (encS (bN x.u (bN x.d n b).2 b).1) 12)),(34,aT (gR (encS (bN x.u (bN x.d n b).2 b).1) 13)),(35,bH (gR (encS (bN x.u (bN x.d n b).2 b).1) 14)),(36,bH (gR (encS (bN x.u (bN x.d n b).2 b).1) 15)),(37,aa (gR (encS (bN x.u (bN x.d n b).2 b).1) 16)),(38,bC (gR (encS (bN x.u (bN x.d n b).2 b).1) 17)),(39,dh (gR (encS (bN x.u (bN x.d n b).2 b).1) 18)),(40,dg (gR (encS (bN x.u (bN x.d n b).2 b).1) 19)),(41,c8 (gR (encS (bN x.u (bN x.d n b).2 b).1) 20))]))=((Lp++[(.mk (bN x.d n b).1 (bN x.u (bN x.d n b).2 b).1 :CD)])++rest).map cj:=by
      rw [rU,aNI,OV (by rw [PD,PD]),Ct]
     have i2:=fr (bN x.u (bN x.d n b).2 b).2 lo.1 (by omega) (Lp++[(.mk (bN x.d n b).1 (bN x.u (bN x.d n b).2 b).1 :CD)]) (by simp);rw [<-aap,iU,<-wo]at i2;have e3:=e2 (bN x.d n b).2 (by omega) (by omega) b;rw [show aS b= J (dJ (encS b))by rw [gb],show aS x.u= J (cP dG 21 (gA ((Lp++x::rest).map cj) ((Lp.length:Int).toNat)))by rw [gu]]at e3;refine C _ (br (c:=decide (0<=(bN x.d n b).2)) (JW) (aj e3 (aH ev (aH fG (aH (toN_lt fG) ?_)))));rw [gb];exact i2
 have:=k n h0 h1 [] rfl;rw [gJ]at this;refine bW az1 ?_;rw [gb];refine aj this.diag (af ?_);show(0,[iI _,fS s L (([]++(e8 s.D n b).1).map cj) H A,J (dJ (encS b))])=_;rw [gb];rfl
end
end
theorem aM9:∀s:CS,s.Ok->De s:=by
 refine CS.ind λs ih bz=> ?_;have kv:∀y∈s.kids,y.Ok:=Gv;intro n h0 h1 b;have gb:dJ (encS b)=encS b:=fF b
 by_cases hn:n=0
 ·have hp:bN s n b=(b,-1):=by cases s;simp only [bN];rw [if_pos hn]
  refine bx agM (br (c:=n==0) (wW) (af ?_));rw [gb,hp]
 ·have hw:bw (n- 1)=n- 1:=by simp only [nB]at h1;rw [jI (by omega) (by omega)]
  have l1:=(lpD (g:=λ_=>0) s.D (n- 1) b (by omega)).lo (by omega);have l2:=(lpS (g:=λ_=>0) s.L _ b l1.1).lo l1.1;have l3:=(lpH (g:=λ_=>0) s.H _ b l2.1).lo l2.1;have hp:bN s n b=(.mk s.f (fQ s.L (e8 s.D (n- 1) b).2 b).1 (e8 s.D (n- 1) b).1 (gZ s.H (fQ s.L (e8 s.D (n- 1) b).2 b).2 b).1 (jh s.A (gZ s.H (fQ s.L (e8 s.D (n- 1) b).2 b).2 b).2 b).1,(jh s.A (gZ s.H (fQ s.L (e8 s.D (n- 1) b).2 b).2 b).2 b).2):=by
   cases s;simp only [bN];rw [if_neg hn];rfl
  have e1:=aNd bz (b:=b) (λd hd=>⟨ih _ (qh hd).1 (kv _ (qh hd).1),ih _ (qh hd).2 (kv _ (qh hd).2)⟩) (L:=s.L.map encS) (H:=s.H.map cz) (A:=s.A.map cu) (n:=n- 1) (by omega) (by omega);have e2:=ptL bz (b:=b) (λy hy=>ih _ (xo hy) (kv _ (xo hy))) (D:=(e8 s.D (n- 1) b).1.map cj) (H:=s.H.map cz) (A:=s.A.map cu) l1.1 (by omega);have e3:=aNc bz (b:=b) (λy hy=>ih _ (AN hy) (kv _ (AN hy))) (L:=(fQ s.L (e8 s.D (n- 1) b).2 b).1.map encS) (D:=(e8 s.D (n- 1) b).1.map cj) (A:=s.A.map cu) l2.1 (by omega);have e4:=aNe bz (b:=b) (λy hy=>⟨ih _ (qi hy).1 (kv _ (qi hy).1),ih _ (qi hy).2 (kv _ (qi hy).2)⟩) (L:=(fQ s.L (e8 s.D (n- 1) b).2 b).1.map encS) (D:=(e8 s.D (n- 1) b).1.map cj) (H:=(gZ s.H (fQ s.L (e8 s.D (n- 1) b).2 b).2 b).1.map cz) l3.1 (by omega);rw [amy s];refine bx agM (ax (c:=n==0) (wW) ?_);rw [hw,gb];refine aj e1 ?_;show E (λN _=>bO (OH (FU CX EE N) N [iI (e8 s.D (n- 1) b).2,fS s (s.L.map encS) ((e8 s.D (n- 1) b).1.map cj) (s.H.map cz) (s.A.map cu),J (dJ (encS b))]) _) _;rw [gb];refine aj e2 ?_;show E (λN _=>bO (Oi (FU CX EE N) N [iI (fQ s.L (e8 s.D (n- 1) b).2 b).2,fS s ((fQ s.L (e8 s.D (n- 1) b).2 b).1.map encS) ((e8 s.D (n- 1) b).1.map cj) (s.H.map cz) (s.A.map cu),J (dJ (encS b))]) _) _;rw [gb];refine aj e3 ?_;show E (λN _=>bO (xZ (FU CX EE N) N N [iI (gZ s.H (fQ s.L (e8 s.D (n- 1) b).2 b).2 b).2,iI 0,fS s ((fQ s.L (e8 s.D (n- 1) b).2 b).1.map encS) ((e8 s.D (n- 1) b).1.map cj) ((gZ s.H (fQ s.L (e8 s.D (n- 1) b).2 b).2 b).1.map cz) (s.A.map cu),J (dJ (encS b))]) _) _;rw [gb];refine aj e4.diag (af ?_);have hq:aS (bN s n b).1 =fS s ((fQ s.L (e8 s.D (n- 1) b).2 b).1.map encS) ((e8 s.D (n- 1) b).1.map cj) ((gZ s.H (fQ s.L (e8 s.D (n- 1) b).2 b).2 b).1.map cz) ((jh s.A (gZ s.H (fQ s.L (e8 s.D (n- 1) b).2 b).2 b).2 b).1.map cu):=by rw [hp];exact amy _
  have hr:(bN s n b).2 =(jh s.A (gZ s.H (fQ s.L (e8 s.D (n- 1) b).2 b).2 b).2 b).2 :=by rw [hp]
  rw [hq,hr];rfl
def jV:List TK->Int->CS->List TK×Int
 | [],n,_=>([],n)
 |x::xs,n,b=>if n<0 then(x::xs,n)else({x with body:=(bN x.body n b).1}::(jV xs (bN x.body n b).2 b).1,(jV xs (bN x.body n b).2 b).2)
theorem lpT{g:dk->Nat}:∀(l:List TK) (n:Int) (b:CS),(n= -1∨0<=n)->Pl g (fV l) (fV (jV l n b).1) n (jV l n b).2 b
 | [],n,b,_=>Pl.nil
 |s::ss,n,b,hn=>by
  simp only [jV]
  by_cases h0:n<0
  ·exact Ku
  ·rw [if_neg h0];have i1:=zg (g:=g) s.body n b (by omega);have i2:=lpT (g:=g) ss _ b (i1.lo (by omega)).1;exact Kf
abbrev zK(p:PG)(k:Nat):AV:= J [bJ (cb p.bu),iI p.eL,.aC k,od (p.dw.map fA)]
theorem aNF(x:TK)(y:CS):setAt (cF x) 2 (encS y)=cF {x with body:=y}:=by
 cases x with
 |mk a b c d=>cases c;cases y;kernel_rfl
section
variable {p:PG} (hp:p.Ok)
include hp in
theorem aFE{n:Int}(h0:n= -1∨0<=n)(h1:n<=nB)(b:CS):Ev Ww [aG p,iI n,aS b] (0,[zK p 0,fZ ((jV p.tasks n b).1.map cF)]):=by
 have gb:dJ (encS b)=encS b:=fF b;have fin:∀{X:aW} {i n:Int},(n<0∨ln X<=i)->bP Iw [iI n,iI i,zK p 2,aS b,fZ X] (0,[zK p 2,aS b,fZ X]):=λ{X i n} h=>by
  have j:bK Nh [iI n,iI i,zK p 1,fZ X] (1,[zK p 1,fZ X]):=by
   refine bW adz (aw (c:=decide (i<ln X)) (λa=>ax (c:=decide (0<=n)) ?_ aL) λ_=>aL);simp at a⊢;omega
  refine bD adJ (aj j (bj ?_));rw [gb];exact aL
 have k:=fH (m:=p.tasks.length) (P:=λi=>∀n:Int,(n= -1∨0<=n)->n<=nB->∀Lp:List TK,Lp.length=i->bP Iw [iI n,iI (i:Int),zK p 2,aS b,fZ ((Lp++p.tasks.drop i).map cF)] (0,[zK p 2,aS b,fZ ((Lp++(jV (p.tasks.drop i) n b).1).map cF)]))
  (λn _ _ Lp hp=>by
    rw [gK];simp only [jV];exact fin (.inr (Ka)))
  λi hi fr n h0 h1 Lp hl=>by
   have hk:=hp.task _ (dy hi);have hT:=hp.tasks;rw [fW hi];simp only [jV]
   by_cases hn:n<0
   ·exact Kc
   ·rw [if_neg hn];have lo:=(zg (g:=λ_=>0) p.tasks[i].body n b (by omega)).lo (by omega);have e:=aM9 _ hk.body n (by omega) h1 b;subst hl;generalize hx:p.tasks[Lp.length]'hi=x at*;generalize hr:p.tasks.drop (Lp.length+1)=rest at*;have hlen:Lp.length+(rest.length+1)<=mx:=by
     have:p.tasks.length=Lp.length+(rest.length+1):=Kb;omega
    have gs:cP dG 2 (gA ((Lp++x::rest).map cF) ((Lp.length:Int).toNat))=encS x.body:=by rw [rU,RF]
    have nX:((Lp++x::rest).map cF).length =Lp.length+(rest.length+1):=by simp
    have j:bK Nh [iI n,iI (Lp.length:Int),zK p 1,fZ ((Lp++x::rest).map cF)] (0,[zK p 1,fZ ((Lp++x::rest).map cF)]):=by
     refine bW adz (br (c:=decide ((Lp.length:Int)<ln ((Lp++x::rest).map cF))) (sV) (br (c:=decide (0<=n)) (wW) aL))
    have fG:ib (Lp.length:Int) ((Lp++x::rest).map cF).length =true:=qM (J2);have yS:((Lp++x::rest).map cF).set ((Lp.length:Int).toNat) (setAt (gA ((Lp++x::rest).map cF) ((Lp.length:Int).toNat)) 2 (encS (bN x.body n b).1))=((Lp++[{x with body:=(bN x.body n b).1}])++rest).map cF:=by
     rw [rU,aNF,Ct]
    have i2:=fr (bN x.body n b).2 lo.1 (by omega) (Lp++[{x with body:=(bN x.body n b).1}]) (by simp);rw [<-yS,iU]at i2;rw [show aS b= J (dJ (encS b))by rw [gb],show aS x.body= J (cP dG 2 (gA ((Lp++x::rest).map cF) ((Lp.length:Int).toNat)))by rw [gs]]at e;refine bD adJ (aj j (aY (aH fG (aH (toN_lt fG) (aj e (aH fG (aH (toN_lt fG) ?_)))))));rw [ix (n:=Lp.length+1) (by omega) (by omega)];have g1:dJ (gC [aS (bN x.body n b).1,iI (bN x.body n b).2] 0)=encS (bN x.body n b).1 :=fF _;rw [gb];erw [g1];exact i2
 have k0:=k n h0 h1 [] rfl;rw [gJ]at k0;refine bx ayD (aH ?_ ?_)
 ·show decide ((0+(p.tasks.map cF).length)*312<=140737488355328)=true;have:=hp.tasks;rw [ey];simp only [mx]at this;simp;omega
 ·rw [gb];exact aj k0.diag aL
end
end Go.Proofs.YtomkobcipaligaaGreatDoor
namespace Go.aA
def J9{p:Prop}(h:p:=by rw [if_pos h0];exact⟨rfl,h⟩):p:=h
def JX{p:Prop}(h:p:=by simp [fz,mx]):p:=h
def JV{p:Prop}(h:p:=by simp [i2.1]):p:=h
end Go.aA
namespace Go.Proofs.YtomkobcipaligaaGreatDoor
open Go Go.aA
section
variable{s:CS}
structure En(s:CS):Prop where
 f:s.f.Ok
 lL:s.L.length<=mx
 lD:s.D.length<=mx
 lH:s.H.length<=mx
 lA:s.A.length<=mx
 L:∀y∈s.L,y.Ok
 D:∀d∈s.D,d.d.Ok∧d.u.Ok
 H:∀x∈s.H,x.qE∧x.body.Ok
 A:∀x∈s.A,x.qE∧x.body.Ok∧x.after.Ok
theorem En.to(h:En s):s.Ok:=by
 refine .mk s h.f h.lL h.lD h.lH h.lA (λx hx=>(h.H x hx).1) (λx hx=>(h.A x hx).1) λy hy=> ?_;simp only [CS.kids,j7,FK,Ab,gX,PK,or_false]at hy;rcases hy with⟨d,hd,rfl|rfl⟩|hy|⟨x,hx,rfl⟩|⟨x,hx,rfl|rfl⟩
 ·exact(h.D d hd).1
 ·exact(h.D d hd).2
 ·exact h.L y hy
 ·exact(h.H x hx).2
 ·exact(h.A x hx).2.1
 ·exact(h.A x hx).2.2
theorem En.of(h:s.Ok):En s:=by
 obtain⟨_,hf,hL,hD,hH,hA,h1,h2,hk⟩:=h;exact⟨hf,hL,hD,hH,hA,λy hy=>hk _ (xo hy),λd hd=>⟨hk _ (qh hd).1,hk _ (qh hd).2⟩,λx hx=>⟨h1 x hx,hk _ (AN hx)⟩,λx hx=>⟨h2 x hx,hk _ (qi hx).1,hk _ (qi hx).2⟩⟩
mutual
theorem Dq:∀(s:CS) (n:Int) (b:CS),s.Ok->b.Ok->(bN s n b).1.Ok
 | .mk f l d h a,n,b,hs,hb=>by
   have o:=En.of hs;simp only [bN]
   by_cases h0:n=0
   ·rw [if_pos h0];exact hb
   ·rw [if_neg h0];have i1:=aot d (n- 1) b o.D hb;have i2:=aor l (e8 d (n- 1) b).2 b o.L hb;have i3:=aos h (fQ l (e8 d (n- 1) b).2 b).2 b o.H hb;have i4:=aou a (gZ h (fQ l (e8 d (n- 1) b).2 b).2 b).2 b o.A hb;exact En.to ⟨o.f,by show(fQ l _ b).1.length <=mx;rw [i2.1];exact o.lL,by show(e8 d _ b).1.length <=mx;rw [i1.1];exact o.lD,by show(gZ h _ b).1.length <=mx;rw [i3.1];exact o.lH,by show(jh a _ b).1.length <=mx;rw [i4.1];exact o.lA,i2.2,i1.2,i3.2,i4.2⟩
theorem aor:∀(l:List CS) (n:Int) (b:CS),(∀y∈l,y.Ok)->b.Ok->(fQ l n b).1.length =l.length∧∀y∈(fQ l n b).1,y.Ok
 | [],n,b,h,hb=>by simp only [fQ];exact⟨trivial,h⟩
 |s::ss,n,b,h,hb=>by
  simp only [fQ]
  by_cases h0:n<0
  ·exact J9
  ·rw [if_neg h0];have i1:=Dq s n b (h s (by simp)) hb;have i2:=aor ss (bN s n b).2 b (λy hy=>h y (yp)) hb;refine⟨JV,λy hy=> ?_⟩;rcases gX.1 hy with rfl|hy
   ·exact i1
   ·exact i2.2 y hy
theorem aot:∀(l:List CD) (n:Int) (b:CS),(∀y∈l,y.d.Ok∧y.u.Ok)->b.Ok->(e8 l n b).1.length =l.length∧∀y∈(e8 l n b).1,y.d.Ok∧y.u.Ok
 | [],n,b,h,hb=>by simp only [e8];exact⟨trivial,h⟩
 | .mk d u::ss,n,b,h,hb=>by
   simp only [e8]
   by_cases h0:n<0
   ·exact J9
   ·rw [if_neg h0];have hh:=h (.mk d u) (by simp);have i1:=Dq d n b hh.1 hb;have i3:=Dq u (bN d n b).2 b hh.2 hb;have i2:=aot ss (kP (.mk d u) n b).2 b (λy hy=>h y (yp)) hb;refine⟨JV,λy hy=> ?_⟩;rcases gX.1 hy with rfl|hy
    ·rw [YE]
     by_cases hz:(bN (CD.mk d u).d n b).2 <0
     ·rw [if_pos hz];exact⟨i1,hh.2⟩
     ·rw [if_neg hz];exact⟨i1,i3⟩
    ·exact i2.2 y hy
theorem aos:∀(l:List CH) (n:Int) (b:CS),(∀y∈l,y.qE∧y.body.Ok)->b.Ok->(gZ l n b).1.length =l.length∧∀y∈(gZ l n b).1,y.qE∧y.body.Ok
 | [],n,b,h,hb=>by simp only [gZ];exact⟨trivial,h⟩
 | .mk e x::ss,n,b,h,hb=>by
   simp only [gZ]
   by_cases h0:n<0
   ·exact J9
   ·rw [if_neg h0];have hh:=h (.mk e x) (by simp);have i1:=Dq x n b hh.2 hb;have i2:=aos ss (qU (.mk e x) n b).2 b (λy hy=>h y (yp)) hb;refine⟨JV,λy hy=> ?_⟩;rcases gX.1 hy with rfl|hy
    ·rw [JG];exact⟨⟨hh.1.eL⟩,i1⟩
    ·exact i2.2 y hy
theorem aou:∀(l:List CA) (n:Int) (b:CS),(∀y∈l,y.qE∧y.body.Ok∧y.after.Ok)->b.Ok->(jh l n b).1.length =l.length∧∀y∈(jh l n b).1,y.qE∧y.body.Ok∧y.after.Ok
 | [],n,b,h,hb=>by simp only [jh];exact⟨trivial,h⟩
 | .mk k g m e d u::ss,n,b,h,hb=>by
   simp only [jh]
   by_cases h0:n<0
   ·exact J9
   ·rw [if_neg h0];have hh:=h (.mk k g m e d u) (by simp);have i1:=Dq d n b hh.2.1 hb;have i3:=Dq u (bN d n b).2 b hh.2.2 hb;have i2:=aou ss (kQ (.mk k g m e d u) n b).2 b (λy hy=>h y (yp)) hb;refine⟨JV,λy hy=> ?_⟩;rcases gX.1 hy with rfl|hy
    ·rw [YG]
     by_cases hz:(bN (CA.mk k g m e d u).body n b).2 <0
     ·rw [if_pos hz];exact⟨⟨hh.1.guard,hh.1.E⟩,i1,hh.2.2⟩
     ·rw [if_neg hz];exact⟨⟨hh.1.guard,hh.1.E⟩,i1,i3⟩
    ·exact i2.2 y hy
end
theorem aoq:∀(l:List TK) (n:Int) (b:CS),(∀t∈l,t.Ok)->b.Ok->(jV l n b).1.length =l.length∧∀t∈(jV l n b).1,t.Ok
 | [],n,b,h,hb=>⟨rfl,h⟩
 |x::ss,n,b,h,hb=>by
  simp only [jV]
  by_cases h0:n<0
  ·exact J9
  ·rw [if_neg h0];have hh:=h x (by simp);have i1:=Dq x.body n b hh.body hb;have i2:=aoq ss (bN x.body n b).2 b (λy hy=>h y (yp)) hb;refine⟨JV,λy hy=> ?_⟩;rcases gX.1 hy with rfl|hy
   ·exact⟨hh.len,hh.au,i1⟩
   ·exact i2.2 y hy
theorem aEw:∀s:CS,s.Ok->∀y∈ez s,y.Ok:=by
 refine CS.ind λs ih bz y hy=> ?_;have kv:∀y∈s.kids,y.Ok:=Gv;rw [Py]at hy;rcases gX.1 hy with rfl|hy
 ·exact bz
 ·have:∀l:List CS,(∀z∈l,z∈s.kids)->y∈gp l->y.Ok:=by
   intro l
   induction l with
   |nil=>intro _ h;simp [gp]at h
   |cons z l il=>
    intro hl h;simp only [gp]at h;rcases j7.1 h with h|h
    ·exact ih z (hl z (by simp)) (kv _ (hl z (by simp))) y h
    ·exact il (λw hw=>hl w (by simp [hw])) h
  exact this s.kids (λ_ h=>h) hy
theorem ahl:∀(l:List TK),(∀t∈l,t.Ok)->∀y∈fV l,y.Ok
 | [],_,y,hy=>by cases hy
 |x::xs,h,y,hy=>by
  simp only [fV]at hy;rcases j7.1 hy with hy|hy
  ·exact aEw _ (h x (by simp)).body y hy
  ·exact ahl xs (λt ht=>h t (by simp [ht])) y hy
theorem aGl(k:Int)(x:XF)(h:0<=x.mode):(fz k x).Ok :=⟨⟨JX,by simp [fz]⟩,⟨JX,by simp [fz]⟩,⟨JX,by simp [fz]⟩,⟨JX,by simp [fz]⟩,JX,h⟩
section
variable {p:PG} (hp:p.Ok) (hE:kO)
def uu(p:PG)(n:Int)(b:CS):PG:={p with tasks:=(jV p.tasks n b).1}
include hp in
theorem ahQ{n:Int}{b:CS}(hb:b.Ok):(uu p n b).Ok :=by
 have:=aoq p.tasks n b hp.task hb;exact⟨hp.bu,hp.obj,by show(jV p.tasks n b).1.length <=mx;rw [this.1];exact hp.tasks,this.2,hp.dw,hp.gL⟩
include hp hE in
end
end
end Go.Proofs.YtomkobcipaligaaGreatDoor
namespace Go.aA
def w8{p:Prop}(h:p:=by exact⟨l,h1,by omega,h3⟩):p:=h
def akC{p:Prop}(h:p:=by
 cases a<;>simp only [iJ,lO]at h
 have e:=eq_of_beq h;subst e;exact⟨_,rfl⟩):p:=h
end Go.aA
namespace Go.Proofs.YtomkobcipaligaaGreatDoor
open Go Go.aA
section
variable{a x:AV}{v:Int}{t:Nat}{row:Row}{xs:aW}
def wf_i64(h:(Lit.int .i64 v).wf =true): -9223372036854775808<=v∧v<=9223372036854775807:=by
 simp only [Lit.wf,IntKind.min,IntKind.max,IntKind.signed,IntKind.bits,bM,jm,oJ]at h;omega
def wf_u8(h:(Lit.int .u8 v).wf =true):0<=v∧v<=255:=by
 simp only [Lit.wf,IntKind.min,IntKind.max,IntKind.signed,IntKind.bits,bM,jm,lO,nv]at h;omega
def fp{k:Kind}{ks:ei}(h:dt (k::ks) row=true):∃a r,row=a::r∧iJ k a=true∧dt ks r=true:=by
 match row,h with
 | [],h=>exact CJ
 |a::r,h=>
  simp only [dt,bM]at h;exact⟨a,r,rfl,h.1,h.2⟩
def jT{k:IntKind}(h:iJ (.int k) a=true):∃n,a= .int k n:=akC
def FV(h:iJ .bool a=true):∃n,a= ak n:=by
 cases a<;>simp only [iJ,lO]at h
 exact⟨_,rfl⟩
def mV{t:TypeId}(h:iJ (.slice t) a=true):∃n,a= .ab t n:=akC
def yc:∀{a b:ei} {row:Row},dt (a++b) row=true->∃r s,row=r++s∧dt a r=true∧dt b s=true
 | [],_,row,h=>⟨[],row,rfl,rfl,h⟩
 |k::a,b,row,h=>by
  obtain⟨x,r,rfl,h1,h2⟩:=fp h;obtain⟨r1,r2,rfl,h3,h4⟩:=yc h2;exact⟨x::r1,r2,rfl,by simp [dt,h1,h3],h4⟩
def sI(h:dt [] row=true):row=[]:=by cases row<;>simp_all [dt]
def lift{α:Type}{enc:α->Row}{P:α->Prop}:∀{xs:aW},(∀r∈xs,∃a,r=enc a∧P a)->∃l:List α,xs=l.map enc∧l.length=xs.length∧∀a∈l,P a
 | [],_=>⟨[],rfl,rfl,λa h=>aX⟩
 |r::rs,h=>by
  obtain⟨a,rfl,h1⟩:=h r (by simp);obtain⟨l,rfl,h2,h3⟩:=lift (xs:=rs) λr hr=>h r (by simp [hr]);exact⟨a::l,rfl,by simp,λy hy=>by
   rcases gX.1 hy with rfl|hy
   ·exact h1
   ·exact h3 y hy⟩
structure Dc(t:Nat)(xs:aW):Prop where
 i:t=uj->∃l:cW,xs=ints l∧l.length<=mx
 e:t=Fe->∃l,xs=l.map aP∧G8 l
 p:t=Fc->∃l,xs=l.map c5∧ab4 l
 s:t=Ol->∃l:List CS,xs=l.map encS∧l.length<=mx∧∀x∈l,x.Ok
 d:t=Om->∃l:List CD,xs=l.map cj∧l.length<=mx∧∀x∈l,x.d.Ok∧x.u.Ok
 h:t=Nx->∃l:List CH,xs=l.map cz∧l.length<=mx∧∀x∈l,x.qE∧x.body.Ok
 a:t=OJ->∃l:List CA,xs=l.map cu∧l.length<=mx∧∀x∈l,x.qE∧x.body.Ok∧x.after.Ok
 o:t=ags->∃l:List OB,xs=l.map gj∧l.length<=mx∧∀x∈l,x.Ok
 n:t=afC->∃l:List EN,xs=l.map iP∧l.length<=mx∧∀x∈l,x.Ok
 k:t=af3->∃l:List TK,xs=l.map cF∧l.length<=mx∧∀x∈l,x.Ok
 q:t=af4->∃l:List PR,xs=l.map fA∧l.length<=mx∧∀x∈l,x.Ok
def Hi(row:Row):Prop:=∀y∈row,Wf CX.K y∧∀t xs,y= .ab t xs->Dc t xs
def Hi.l{r s:Row}(h:Hi (r++s)):Hi r:=λy hy=>h y (yp)
def Hi.r{r s:Row}(h:Hi (r++s)):Hi s:=λy hy=>h y (yp)
def Hi.at(h:Hi row)(hm:AV.ab t xs∈row):Dc t xs:=(h _ hm).2 _ _ rfl
abbrev nF:ei:=[.int .u8,.int .i64,.int .i64,.int .i64,.int .i64,.int .i64,.bool,.bool,.bool,.bool,.bool,.int .u8,.slice 54,.slice 54,.slice 118,.slice 118,.slice 3,.slice 41,.slice 110,.slice 112,.slice 115]
abbrev Hw:ei:=[.int .u8,.int .u8,.int .i64,.int .i64,.int .i64,.int .i64,.int .i64,.int .i64,.slice 54]
abbrev kdP:ei:=[.int .u8,.int .i64,.int .i64,.int .i64,.slice 54]
abbrev LH:ei:=[.int .i64,.int .i64,.int .i64,.bool,.slice 3]
abbrev kdN:ei:=[.slice 3,.slice 3]
abbrev kdQ:ei:=[.int .i64,.slice 3,.slice 54]
abbrev kdG:ei:=[.slice 120,.int .i64,.slice 57,.slice 67]
def aof(h:dt Hw row=true)(hi:Hi row):∃s:CE,row=aP s∧s.Ok:=by
 obtain⟨x0,r0,rfl,q0,g0⟩:=fp h;obtain⟨x0,rfl⟩:=jT q0;obtain⟨x1,r1,rfl,q1,g1⟩:=fp g0;obtain⟨x1,rfl⟩:=jT q1;obtain⟨x2,r2,rfl,q2,g2⟩:=fp g1;obtain⟨x2,rfl⟩:=jT q2;obtain⟨x3,r3,rfl,q3,g3⟩:=fp g2;obtain⟨x3,rfl⟩:=jT q3;obtain⟨x4,r4,rfl,q4,g4⟩:=fp g3;obtain⟨x4,rfl⟩:=jT q4;obtain⟨x5,r5,rfl,q5,g5⟩:=fp g4;obtain⟨x5,rfl⟩:=jT q5;obtain⟨x6,r6,rfl,q6,g6⟩:=fp g5;obtain⟨x6,rfl⟩:=jT q6;obtain⟨x7,r7,rfl,q7,g7⟩:=fp g6;obtain⟨x7,rfl⟩:=jT q7;obtain⟨x8,r8,rfl,q8,g8⟩:=fp g7;obtain⟨x8,rfl⟩:=mV q8;obtain rfl:=sI g8;obtain⟨l8,rfl,b8⟩:=(hi.at (t:=54) (xs:=x8) (by simp)).e rfl;exact⟨.mk x0 x1 x2 x3 x4 x5 x6 x7 l8,(FZ (.mk x0 x1 x2 x3 x4 x5 x6 x7 l8)).symm,.mk _ b8.1 b8.2⟩
def aMR(h:dt kdP row=true)(hi:Hi row):∃s:PL,row=c5 s∧s.Ok:=by
 obtain⟨x0,r0,rfl,q0,g0⟩:=fp h;obtain⟨x0,rfl⟩:=jT q0;obtain⟨x1,r1,rfl,q1,g1⟩:=fp g0;obtain⟨x1,rfl⟩:=jT q1;obtain⟨x2,r2,rfl,q2,g2⟩:=fp g1;obtain⟨x2,rfl⟩:=jT q2;obtain⟨x3,r3,rfl,q3,g3⟩:=fp g2;obtain⟨x3,rfl⟩:=jT q3;obtain⟨x4,r4,rfl,q4,g4⟩:=fp g3;obtain⟨x4,rfl⟩:=mV q4;obtain rfl:=sI g4;obtain⟨l4,rfl,b4⟩:=(hi.at (t:=54) (xs:=x4) (by simp)).e rfl;exact⟨⟨x0,x1,x2,x3,l4⟩,rfl,b4⟩
def aMS(h:dt LH row=true)(hi:Hi row):∃s:OB,row=gj s∧s.Ok:=by
 obtain⟨x0,r0,rfl,q0,g0⟩:=fp h;obtain⟨x0,rfl⟩:=jT q0;obtain⟨x1,r1,rfl,q1,g1⟩:=fp g0;obtain⟨x1,rfl⟩:=jT q1;obtain⟨x2,r2,rfl,q2,g2⟩:=fp g1;obtain⟨x2,rfl⟩:=jT q2;obtain⟨x3,r3,rfl,q3,g3⟩:=fp g2;obtain⟨x3,rfl⟩:=FV q3;obtain⟨x4,r4,rfl,q4,g4⟩:=fp g3;obtain⟨x4,rfl⟩:=mV q4;obtain rfl:=sI g4;obtain⟨l4,rfl,b4⟩:=(hi.at (t:=3) (xs:=x4) (by simp)).i rfl;exact⟨⟨x0,x1,x2,x3,l4⟩,rfl,b4⟩
def aMT(h:dt kdN row=true)(hi:Hi row):∃s:EN,row=iP s∧s.Ok:=by
 obtain⟨x0,r0,rfl,q0,g0⟩:=fp h;obtain⟨x0,rfl⟩:=mV q0;obtain⟨x1,r1,rfl,q1,g1⟩:=fp g0;obtain⟨x1,rfl⟩:=mV q1;obtain rfl:=sI g1;obtain⟨l0,rfl,b0⟩:=(hi.at (t:=3) (xs:=x0) (by simp)).i rfl;obtain⟨l1,rfl,b1⟩:=(hi.at (t:=3) (xs:=x1) (by simp)).i rfl;exact⟨⟨l0,l1⟩,rfl,b0,b1⟩
def aMQ(h:dt kdQ row=true)(hi:Hi row):∃s:PR,row=fA s∧s.Ok:=by
 obtain⟨x0,r0,rfl,q0,g0⟩:=fp h;obtain⟨x0,rfl⟩:=jT q0;obtain⟨x1,r1,rfl,q1,g1⟩:=fp g0;obtain⟨x1,rfl⟩:=mV q1;obtain⟨x2,r2,rfl,q2,g2⟩:=fp g1;obtain⟨x2,rfl⟩:=mV q2;obtain rfl:=sI g2;obtain⟨l1,rfl,b1⟩:=(hi.at (t:=3) (xs:=x1) (by simp)).i rfl;obtain⟨l2,rfl,b2⟩:=(hi.at (t:=54) (xs:=x2) (by simp)).e rfl;exact⟨⟨x0,l1,l2⟩,rfl,b1,b2⟩
def Dm(h:dt nF row=true)(hi:Hi row):∃s:CS,row=encS s∧s.Ok:=by
 obtain⟨x0,r0,rfl,q0,g0⟩:=fp h;obtain⟨x0,rfl⟩:=jT q0;obtain⟨x1,r1,rfl,q1,g1⟩:=fp g0;obtain⟨x1,rfl⟩:=jT q1;obtain⟨x2,r2,rfl,q2,g2⟩:=fp g1;obtain⟨x2,rfl⟩:=jT q2;obtain⟨x3,r3,rfl,q3,g3⟩:=fp g2;obtain⟨x3,rfl⟩:=jT q3;obtain⟨x4,r4,rfl,q4,g4⟩:=fp g3;obtain⟨x4,rfl⟩:=jT q4;obtain⟨x5,r5,rfl,q5,g5⟩:=fp g4;obtain⟨x5,rfl⟩:=jT q5;obtain⟨x6,r6,rfl,q6,g6⟩:=fp g5;obtain⟨x6,rfl⟩:=FV q6;obtain⟨x7,r7,rfl,q7,g7⟩:=fp g6;obtain⟨x7,rfl⟩:=FV q7;obtain⟨x8,r8,rfl,q8,g8⟩:=fp g7;obtain⟨x8,rfl⟩:=FV q8;obtain⟨x9,r9,rfl,q9,g9⟩:=fp g8;obtain⟨x9,rfl⟩:=FV q9;obtain⟨x10,eH,rfl,mO,g10⟩:=fp g9;obtain⟨x10,rfl⟩:=FV mO;obtain⟨Lo,fE,rfl,re,g11⟩:=fp g10;obtain⟨Lo,rfl⟩:=jT re;obtain⟨x12,fD,rfl,pN,g12⟩:=fp g11;obtain⟨x12,rfl⟩:=mV pN;obtain⟨x13,fC,rfl,zf,g13⟩:=fp g12;obtain⟨x13,rfl⟩:=mV zf;obtain⟨x14,fq,rfl,vU,g14⟩:=fp g13;obtain⟨x14,rfl⟩:=mV vU;obtain⟨x15,Be,rfl,vT,g15⟩:=fp g14;obtain⟨x15,rfl⟩:=mV vT;obtain⟨x16,Bd,rfl,ze,g16⟩:=fp g15;obtain⟨x16,rfl⟩:=mV ze;obtain⟨x17,Bc,rfl,vS,g17⟩:=fp g16;obtain⟨x17,rfl⟩:=mV vS;obtain⟨x18,Bb,rfl,Lx,g18⟩:=fp g17;obtain⟨x18,rfl⟩:=mV Lx;obtain⟨x19,Ba,rfl,DP,g19⟩:=fp g18;obtain⟨x19,rfl⟩:=mV DP;obtain⟨x20,A9,rfl,q20,g20⟩:=fp g19;obtain⟨x20,rfl⟩:=mV q20;obtain rfl:=sI g20;obtain⟨l12,rfl,b12⟩:=(hi.at (t:=54) (xs:=x12) (by simp)).e rfl;obtain⟨l13,rfl,b13⟩:=(hi.at (t:=54) (xs:=x13) (by simp)).e rfl;obtain⟨l14,rfl,b14⟩:=(hi.at (t:=118) (xs:=x14) (by simp)).p rfl;obtain⟨l15,rfl,b15⟩:=(hi.at (t:=118) (xs:=x15) (by simp)).p rfl;obtain⟨l16,rfl,b16⟩:=(hi.at (t:=3) (xs:=x16) (by simp)).i rfl;obtain⟨l17,rfl,b17⟩:=(hi.at (t:=41) (xs:=x17) (by simp)).s rfl;obtain⟨l18,rfl,b18⟩:=(hi.at (t:=110) (xs:=x18) (by simp)).d rfl;obtain⟨Ta,rfl,b19⟩:=(hi.at (t:=112) (xs:=x19) (by simp)).h rfl;obtain⟨l20,rfl,TE⟩:=(hi.at (t:=115) (xs:=x20) (by simp)).a rfl;have hm:0<=Lo:=by
  have:=(hi (bE Lo) (by simp)).1;cases this with
  |int _ _ h=>exact(wf_u8 h).1
 refine⟨.mk ⟨x0,x1,x2,x3,x4,x5,x6,x7,x8,x9,x10,Lo,l12,l13,l14,l15,l16⟩ l17 l18 Ta l20,(FY (.mk ⟨x0,x1,x2,x3,x4,x5,x6,x7,x8,x9,x10,Lo,l12,l13,l14,l15,l16⟩ l17 l18 Ta l20)).symm,.mk _ ⟨b12,b13,b14,b15,b16,hm⟩ b17.1 b18.1 b19.1 TE.1 (λx hx=>(b19.2 x hx).1) (λx hx=>(TE.2 x hx).1) λy hy=> ?_⟩;simp only [CS.kids,j7,FK,Ab,CS.L,CS.D,CS.H,CS.A,gX,PK,or_false]at hy;rcases hy with⟨x,hx,h|h⟩|h|⟨x,hx,rfl⟩|⟨x,hx,h|h⟩
 ·rw [h];exact(b18.2 x hx).1
 ·rw [h];exact(b18.2 x hx).2
 ·exact b17.2 y h
 ·exact(b19.2 x hx).2
 ·rw [h];exact(TE.2 x hx).2.1
 ·rw [h];exact(TE.2 x hx).2.2
def aMW(h:dt (nF++nF) row=true)(hi:Hi row):∃s:CD,row=cj s∧s.d.Ok∧s.u.Ok:=by
 obtain⟨r,t,rfl,h1,h2⟩:=yc h;obtain⟨a,rfl,ha⟩:=Dm h1 hi.l;obtain⟨b,rfl,hb⟩:=Dm h2 hi.r;exact⟨.mk a b,rfl,ha,hb⟩
def aMV(h:dt ([.slice 3]++nF) row=true)(hi:Hi row):∃s:CH,row=cz s∧s.qE∧s.body.Ok:=by
 obtain⟨r,t,rfl,h1,h2⟩:=yc h;obtain⟨a,rfl,ha⟩:=Dm h2 hi.r;obtain⟨x,r,rfl,q,g⟩:=fp h1;obtain⟨x,rfl⟩:=mV q;obtain rfl:=sI g;obtain⟨l,rfl,b⟩:=(hi.at (t:=3) (xs:=x) (by simp)).i rfl;exact⟨.mk l a,rfl,⟨b⟩,ha⟩
def aMX(h:dt ([.int .u8]++(Hw++([.int .i64,.slice 54]++(nF++nF)))) row=true)(hi:Hi row):∃s:CA,row=cu s∧s.qE∧s.body.Ok∧s.after.Ok:=by
 obtain⟨r1,t1,rfl,h1,h⟩:=yc h;obtain⟨r2,t2,rfl,h2,h⟩:=yc h;obtain⟨r3,t3,rfl,h3,h⟩:=yc h;obtain⟨r4,t4,rfl,h4,h5⟩:=yc h;obtain⟨g,rfl,hg⟩:=aof h2 hi.r.l;obtain⟨a,rfl,ha⟩:=Dm h4 hi.r.r.r.l;obtain⟨b,rfl,hb⟩:=Dm h5 hi.r.r.r.r;obtain⟨x,r,rfl,q,g1⟩:=fp h1;obtain⟨x,rfl⟩:=jT q;obtain rfl:=sI g1;obtain⟨n,r,rfl,q,g3⟩:=fp h3;obtain⟨n,rfl⟩:=jT q;obtain⟨y,r,rfl,q,g3⟩:=fp g3;obtain⟨y,rfl⟩:=mV q;obtain rfl:=sI g3;obtain⟨l,rfl,b2⟩:=(hi.at (t:=54) (xs:=y) (by simp)).e rfl;exact⟨.mk x g n l a b,rfl,⟨hg,b2⟩,ha,hb⟩
def aMP(h:dt ([.int .i64,.slice 134]++(nF++[.int .i64])) row=true)(hi:Hi row):∃s:TK,row=cF s∧s.Ok:=by
 obtain⟨r1,t1,rfl,h1,h⟩:=yc h;obtain⟨r2,t2,rfl,h2,h3⟩:=yc h;obtain⟨a,rfl,ha⟩:=Dm h2 hi.r.l;obtain⟨x,r,rfl,q,g1⟩:=fp h1;obtain⟨x,rfl⟩:=jT q;obtain⟨y,r,rfl,q,g1⟩:=fp g1;obtain⟨y,rfl⟩:=mV q;obtain rfl:=sI g1;obtain⟨z,r,rfl,q,g3⟩:=fp h3;obtain⟨z,rfl⟩:=jT q;obtain rfl:=sI g3;obtain⟨l,rfl,b2⟩:=(hi.at (t:=134) (xs:=y) (by simp)).n rfl;exact⟨⟨x,l,a,z⟩,rfl,b2.1,b2.2,ha⟩
def aMU(h:dt [.int .i64] row=true):∃n:Int,row=[iI n]∧True:=by
 obtain⟨z,r,rfl,q,g3⟩:=fp h;obtain⟨z,rfl⟩:=jT q;obtain rfl:=sI g3;exact⟨z,rfl,trivial⟩
def K3:CX.K 3=[.int .i64]:=oO
def K54:CX.K 54=Hw:=oO
def apD:CX.K 118=kdP:=oO
def K41:CX.K 41=nF:=oO
def apG:CX.K 110=nF++nF:=oO
def apF:CX.K 112=[.slice 3]++nF:=oO
def apE:CX.K 115=[.int .u8]++(Hw++([.int .i64,.slice 54]++(nF++nF))):=oO
def apC:CX.K 120=LH:=oO
def apB:CX.K 134=kdN:=oO
def K57:CX.K 57=[.int .i64,.slice 134]++(nF++[.int .i64]):=oO
def K67:CX.K 67=kdQ:=oO
def ah0:∀{xs:aW},(∀r∈xs,1<=ja r)->xs.length<=oB xs
 | [],_=>ym _
 |r::rs,h=>by
  have:=h r (by simp);have:=ah0 (xs:=rs) λr hr=>h r (by simp [hr]);simp only [oB,mf];omega
def ahZ:∀{xs:aW} {r:Row},r∈xs->ja r<=oB xs
 |x::xs,r,h=>by
  simp only [oB];rcases gX.1 h with rfl|h
  ·omega
  ·have:=ahZ h;omega
def YL:∀{xs:Row} {r:AV},r∈xs->xx r<=ja xs
 |x::xs,r,h=>by
  simp only [ja];rcases gX.1 h with rfl|h
  ·omega
  ·have:=YL h;omega
def aOG(hk:∀row∈xs,dt (CX.K t) row=true)(hl:∀row∈xs,1<=row.length->True)(hn:oB xs<=mx)(hi:∀row∈xs,Hi row):Dc t xs:=by
 have len:∀{k:Kind} {ks:ei},CX.K t=k::ks->xs.length<=mx:=λ{k ks} e=>oh (ah0 λr hr=>by
  have:=iS (hk r hr);rw [e]at this;have:=ah1 r;simp at*;omega) hn
 refine⟨?_,?_,?_,?_,?_,?_,?_,?_,?_,?_,?_⟩
 ·rintro rfl;have hk:∀row∈xs,dt ([.int .i64]) row=true:=λr hr=>by rw [<-K3];exact hk r hr
  have hlen:=len (K3);obtain⟨l,h1,h2,h3⟩:=lift (enc:=λn:Int=>[iI n]) λr hr=>aMU (hk r hr);exact⟨l,h1,by omega⟩
 ·rintro rfl;have hk:∀row∈xs,dt (Hw) row=true:=λr hr=>by rw [<-K54];exact hk r hr
  have hlen:=len (K54);obtain⟨l,h1,h2,h3⟩:=lift λr hr=>aof (hk r hr) (hi r hr);exact w8
 ·rintro rfl;have hk:∀row∈xs,dt (kdP) row=true:=λr hr=>by rw [<-apD];exact hk r hr
  have hlen:=len (apD);obtain⟨l,h1,h2,h3⟩:=lift λr hr=>aMR (hk r hr) (hi r hr);exact w8
 ·rintro rfl;have hk:∀row∈xs,dt (nF) row=true:=λr hr=>by rw [<-K41];exact hk r hr
  have hlen:=len (K41);obtain⟨l,h1,h2,h3⟩:=lift λr hr=>Dm (hk r hr) (hi r hr);exact w8
 ·rintro rfl;have hk:∀row∈xs,dt (nF++nF) row=true:=λr hr=>by rw [<-apG];exact hk r hr
  have hlen:=len (apG);obtain⟨l,h1,h2,h3⟩:=lift λr hr=>aMW (hk r hr) (hi r hr);exact w8
 ·rintro rfl;have hk:∀row∈xs,dt ([.slice 3]++nF) row=true:=λr hr=>by rw [<-apF];exact hk r hr
  have hlen:=len (apF);obtain⟨l,h1,h2,h3⟩:=lift λr hr=>aMV (hk r hr) (hi r hr);exact w8
 ·rintro rfl;have hk:∀row∈xs,dt ([.int .u8]++(Hw++([.int .i64,.slice 54]++(nF++nF)))) row=true:=λr hr=>by rw [<-apE];exact hk r hr
  have hlen:=len (apE);obtain⟨l,h1,h2,h3⟩:=lift λr hr=>aMX (hk r hr) (hi r hr);exact w8
 ·rintro rfl;have hk:∀row∈xs,dt (LH) row=true:=λr hr=>by rw [<-apC];exact hk r hr
  have hlen:=len (apC);obtain⟨l,h1,h2,h3⟩:=lift λr hr=>aMS (hk r hr) (hi r hr);exact w8
 ·rintro rfl;have hk:∀row∈xs,dt (kdN) row=true:=λr hr=>by rw [<-apB];exact hk r hr
  have hlen:=len (apB);obtain⟨l,h1,h2,h3⟩:=lift λr hr=>aMT (hk r hr) (hi r hr);exact w8
 ·rintro rfl;have hk:∀row∈xs,dt ([.int .i64,.slice 134]++(nF++[.int .i64])) row=true:=λr hr=>by rw [<-K57];exact hk r hr
  have hlen:=len (K57);obtain⟨l,h1,h2,h3⟩:=lift λr hr=>aMP (hk r hr) (hi r hr);exact w8
 ·rintro rfl;have hk:∀row∈xs,dt (kdQ) row=true:=λr hr=>by rw [<-K67];exact hk r hr
  have hlen:=len (K67);obtain⟨l,h1,h2,h3⟩:=lift λr hr=>aMQ (hk r hr) (hi r hr);exact w8
def dec(h:Wf CX.K x):xx x<=mx->∀t xs,x= .ab t xs->Dc t xs:=by
 induction h with
 |int|bool|str=>exact λ_ _ _ h=>aX
 |ab t xs hl hk hw ih=>
  rintro hn _ _ ⟨⟩;simp only [xx]at hn;exact aOG hk (λ_ _ _=>trivial) (by omega) λrow hr y hy=>⟨hw row hr y hy,ih row hr y hy (by have:=ahZ hr;have:=YL hy;omega)⟩
def aAD(h:RD CX 26 x)(hn:Hq x<=mx):∃p:PG,x=aG p∧p.Ok:=by
 have ha:(CX.ti 26).u.agg =true:=oO;have jk:(CX.ti 26).ks =kdG:=oO;rcases h with⟨_,row,rfl,h2,h3⟩|⟨h1,_⟩
 ·rw [jk]at h2;have hn:ja row<=mx:=hn;have hi:Hi row:=λy hy=>⟨h3 y hy,dec (h3 y hy) (by have:=YL hy;omega)⟩;rename_i hx;clear hx jk;have h:=h2;obtain⟨x0,r0,rfl,q0,g0⟩:=fp h;obtain⟨x0,rfl⟩:=mV q0;obtain⟨x1,r1,rfl,q1,g1⟩:=fp g0;obtain⟨x1,rfl⟩:=jT q1;obtain⟨x2,r2,rfl,q2,g2⟩:=fp g1;obtain⟨x2,rfl⟩:=mV q2;obtain⟨x3,r3,rfl,q3,g3⟩:=fp g2;obtain⟨x3,rfl⟩:=mV q3;obtain rfl:=sI g3;obtain⟨l0,rfl,b0⟩:=(hi.at (t:=120) (xs:=x0) (by simp)).o rfl;obtain⟨l2,rfl,b2⟩:=(hi.at (t:=57) (xs:=x2) (by simp)).k rfl;obtain⟨l3,rfl,b3⟩:=(hi.at (t:=67) (xs:=x3) (by simp)).q rfl;exact⟨⟨l0,x1,l2,l3⟩,rfl,b0.1,b0.2,b2.1,b2.2,b3.1,b3.2⟩
 ·rw [ha]at h1;cases h1
def aBl(h:RD CX 3 x):∃n,x=iI n∧-9223372036854775808<=n∧n<=9223372036854775807:=by
 have ha:(CX.ti 3).u.agg =false:=oO;have jk:(CX.ti 3).ks =[.int .i64]:=oO;rcases h with⟨h1,_⟩|⟨_,h2,h3⟩
 ·rw [ha]at h1;cases h1
 ·rw [jk]at h2;obtain⟨z,r,e,q,_⟩:=fp h2;obtain⟨rfl,rfl⟩:=List.cons.inj e;obtain⟨n,rfl⟩:=jT q;cases h3 with
  |int _ _ h=>exact⟨n,rfl,wf_i64 h⟩
mutual
theorem Dr:∀s:CS,(ez s).length <=ja (encS s)
 | .mk f l d h a=>by
   have h1:=alw l;have h2:=aly d;have h3:=alx h;have h4:=alz a;simp only [ez,encS,cZ,ja,xx,mf,e7];omega
theorem alw:∀s:List CS,(gp s).length <=oB (GB s)
 | []=>fk _
 |s::ss=>by
  have h1:=Dr s;have h2:=alw ss;simp only [gp,GB,oB,e7];omega
theorem aly:∀s:List CD,(iN s).length <=oB (GD s)
 | []=>fk _
 |s::ss=>by
  have h1:=aNx s;have h2:=aly ss;simp only [iN,GD,oB,e7];omega
theorem aNx:∀s:CD,(AJ s).length <=ja (cj s)
 | .mk d u=>by
   have h1:=Dr d;have h2:=Dr u;simp only [AJ,cj,Fp,e7];omega
theorem alx:∀s:List CH,(j8 s).length <=oB (GC s)
 | []=>fk _
 |s::ss=>by
  have h1:=aNv s;have h2:=alx ss;simp only [j8,GC,oB,e7];omega
theorem aNv:∀s:CH,(yP s).length <=ja (cz s)
 | .mk e b=>by
   have h1:=Dr b;simp only [yP,cz,ja];omega
theorem alz:∀s:List CA,(kc s).length <=oB (GF s)
 | []=>fk _
 |s::ss=>by
  have h1:=aNy s;have h2:=alz ss;simp only [kc,GF,oB,e7];omega
theorem aNy:∀s:CA,(AK s).length <=ja (cu s)
 | .mk k g n e b a=>by
   have h1:=Dr b;have h2:=Dr a;simp only [AK,cu,ja,Fp,e7];omega
end
def aow:∀l:List TK,(fV l).length <=oB (l.map cF)
 | []=>fk _
 |t::l=>by
  have h1:=Dr t.body;have h2:=aow l;simp only [fV,nu,oB,cF,ja,Fp,e7];omega
def aNw(p:PG):(fV p.tasks).length <=Hq (aG p):=by
 have:=aow p.tasks;show _<=ja (nf p);simp only [nf,ja,xx];omega
end
end Go.Proofs.YtomkobcipaligaaGreatDoor
namespace Go.aA
def J1{p:Prop}(h:p:=by simpa using h'):p:=h
def JU{p:Prop}(h:p:=by simp [ih.1]):p:=h
end Go.aA
namespace Go.Proofs.YtomkobcipaligaaGreatDoor
open Go Go.aA
section
variable{f:dk}{L L':List CS}{w:WH}{A A' D D' H H':aW}
def fm:CS:= .mk (fz 1 xz) [] [] [] []
def Ch(b y y':CS):Prop:=y'=y∨∃m:Int,0<=m∧y'=(bN y m b).1
def chL(b:CS):∀(l:List CS) (n:Int),(fQ l n b).1.length =l.length∧∀j (h:j<l.length) (h':j<(fQ l n b).1.length),Ch b l[j] (fQ l n b).1[j]
 | [],n=>by simp only [fQ];exact⟨trivial,λj h=>absurd h (by simp)⟩
 |s::ss,n=>by
  have ih:=chL b ss (bN s n b).2;simp only [fQ]
  by_cases h0:n<0
  ·simp only [if_pos h0];exact⟨trivial,λj _ _=> .inl rfl⟩
  ·simp only [if_neg h0];refine⟨JU,λj h h'=> ?_⟩;cases j with
   |zero=>exact .inr ⟨n,by omega,rfl⟩
   |succ j=>exact ih.2 j (jU) (J1)
def chD(b:CS):∀(l:List CD) (n:Int),(e8 l n b).1.length =l.length∧∀j (h:j<l.length) (h':j<(e8 l n b).1.length),Ch b l[j].d (e8 l n b).1[j].d ∧Ch b l[j].u (e8 l n b).1[j].u
 | [],n=>by simp only [e8];exact⟨trivial,λj h=>absurd h (by simp)⟩
 |s::ss,n=>by
  have ih:=chD b ss (kP s n b).2;simp only [e8]
  by_cases h0:n<0
  ·simp only [if_pos h0];exact⟨trivial,λj _ _=>⟨.inl rfl,.inl rfl⟩⟩
  ·simp only [if_neg h0];refine⟨JU,λj h h'=> ?_⟩;cases j with
   |zero=>
    show Ch b s.d (kP s n b).1.d ∧Ch b s.u (kP s n b).1.u;rw [YE]
    by_cases hz:(bN s.d n b).2 <0
    ·rw [if_pos hz];exact⟨.inr ⟨n,by omega,rfl⟩,.inl rfl⟩
    ·rw [if_neg hz];exact⟨.inr ⟨n,by omega,rfl⟩,.inr ⟨_,by omega,rfl⟩⟩
   |succ j=>exact ih.2 j (jU) (J1)
def chH(b:CS):∀(l:List CH) (n:Int),(gZ l n b).1.length =l.length∧(∀(p:PG) m i sn,zw p m i (gZ l n b).1 sn=zw p m i l sn)∧∀j (h:j<l.length) (h':j<(gZ l n b).1.length),Ch b l[j].body (gZ l n b).1[j].body
 | [],n=>by simp only [gZ];exact⟨trivial,λ_ _ _ _=>trivial,λj h=>absurd h (by simp)⟩
 |s::ss,n=>by
  have ih:=chH b ss (qU s n b).2;simp only [gZ]
  by_cases h0:n<0
  ·simp only [if_pos h0];exact⟨trivial,λ_ _ _ _=>trivial,λj _ _=> .inl rfl⟩
  ·simp only [if_neg h0];refine⟨JU,λp m i sn=> ?_,λj h h'=> ?_⟩
   ·simp only [zw,ih.2.1];rw [JG];rfl
   ·cases j with
    |zero=>
     show Ch b s.body (qU s n b).1.body;rw [JG];exact .inr ⟨n,by omega,rfl⟩
    |succ j=>exact ih.2.2 j (jU) (J1)
def CA.hd(x:CA):Int×CE×Int×List CE:=(x.kind,x.guard,x.entry,x.E)
def chA(b:CS):∀(l:List CA) (n:Int),(jh l n b).1.length =l.length∧(∀s,y7 (jh l n b).1 s=y7 l s)∧∀j (h:j<l.length) (h':j<(jh l n b).1.length),(jh l n b).1[j].hd =l[j].hd ∧Ch b l[j].body (jh l n b).1[j].body ∧Ch b l[j].after (jh l n b).1[j].after
 | [],n=>by simp only [jh];exact⟨trivial,λ_=>trivial,λj h=>absurd h (by simp)⟩
 |s::ss,n=>by
  have ih:=chA b ss (kQ s n b).2;simp only [jh]
  by_cases h0:n<0
  ·simp only [if_pos h0];exact⟨trivial,λ_=>trivial,λj _ _=>⟨trivial,.inl rfl,.inl rfl⟩⟩
  ·simp only [if_neg h0];have k:(kQ s n b).1.hd =s.hd∧Ch b s.body (kQ s n b).1.body ∧Ch b s.after (kQ s n b).1.after :=by
    rw [YG]
    by_cases hz:(bN s.body n b).2 <0
    ·rw [if_pos hz];exact⟨rfl,.inr ⟨n,by omega,rfl⟩,.inl rfl⟩
    ·rw [if_neg hz];exact⟨rfl,.inr ⟨n,by omega,rfl⟩,.inr ⟨_,by omega,rfl⟩⟩
   refine⟨JU,λ⟨x,y,z⟩=> ?_,λj h h'=> ?_⟩
   ·have:(kQ s n b).1.kind =s.kind:=rM Prod.fst k.1;simp only [y7,ih.2.1,this]
   ·cases j with
    |zero=>exact k
    |succ j=>exact ih.2.2 j (jU) (J1)
def aDF{s:CS}(h:jt s=true):s.L=[]∧s.D=[]∧s.H=[]∧s.A=[]:=by
 unfold jt vP lB at h;simp only [bM,PQ,Jz]at h;exact h.2.2.2.2.2.2
def Ch.nl{y y':CS}(h:Ch fm y y')(g:jt y=true):jt y'=true:=by
 rcases h with rfl|⟨m,hm,rfl⟩
 ·exact g
 ·obtain⟨h1,h2,h3,h4⟩:=aDF g;cases y with
  |mk f l d h a=>
   simp only [CS.L,CS.D,CS.H,CS.A]at h1 h2 h3 h4;subst h1 h2 h3 h4;simp only [bN]
   by_cases h0:m=0
   ·rw [if_pos h0];rfl
   ·rw [if_neg h0];simp only [fQ,e8,gZ,jh];exact g
def aCv{L L':aW}(hL:L'.length=L.length)(hD:D'.length=D.length)(hH:H'.length=H.length)(hA:A'.length=A.length):sg f L' D' H' A'=sg f L D H A:=by
 unfold sg pM Hc ln;rw [hL,hD,hH,hA]
def aEj(hl:L'.length=L.length)(h:∀j (h:j<L.length) (h':j<L'.length),Ch fm L[j] L'[j])(g:DG L=true):DG L'=true:=by
 unfold DG at g⊢;rw [jS]at g⊢;intro y hy;obtain⟨i,hi,rfl⟩:=List.mem_iff_getElem.1 hy;rw [wM]at hi;rw [List.getElem_drop];refine(h _ (by omega) (by omega)).nl (g _ ?_);have:=dy (l:=L.drop (L.length- 2)) (n:=i) (by rw [wM];omega);rw [List.getElem_drop]at this;have e:L'.length- 2+i=L.length- 2+i:=by omega
 simp only [e];exact this
section
variable {p:PG} {ro:List RO}
def Own.ch(o:Own p ro w f L D H A)(hl:L'.length=L.length)(h:∀j (h:j<L.length) (h':j<L'.length),Ch fm L[j] L'[j])(hD:D'.length=D.length)(hH:H'.length=H.length)(hA:A'.length=A.length):Own p ro w f L' D' H' A':=by
 refine⟨o.deep,by rw [aCv (L:=L.map encS) (by simp [hl]) hD hH hA];exact o.shape,o.aiq,o.right,?_⟩;have:=o.wn;unfold A1 at this⊢;revert this;cases f.kind==16||f.kind==17 with
 |false=>exact λ_=>rfl
 |true=>
  cases f.mode==0 with
  |false=>exact λ_=>rfl
  |true=>exact aEj hl h
def aFB(w:WH):Rt p ro w (fz 1 xz):=
 ⟨[],[],[],[],rfl,bx sE (ax rfl<|ax rfl<|ax rfl<|ax rfl<|ax rfl<|ax rfl<|ax rfl<|aj (abh 1)<|ax rfl<|aj (abg 1)<|ax rfl<|ax rfl<|ax rfl<|ax rfl<|ax rfl<|ax rfl<|ax rfl<|ax rfl<|af rfl)⟩
def aEC(h:w.deep<64):Own p ro w (fz 1 xz) [] [] [] []:=by
 refine⟨h,rfl,?_,aFB w,rfl⟩;have hb:sC (fz 1 xz)=false:=rfl;have h1:jE (fz 1 xz).kind =false:=rfl;unfold pK uD;rw [hb,h1];cases decide (0<ln (ints w.gY))<;>cases w.hY<;>rfl
def aFj(h:w.deep<64):Vl p ro w fm:=by
 rw [C0];refine⟨aEC h,?_⟩;rw [if_neg (lh),if_neg (lh)];exact λj hj=>absurd hj (by simp [fm,CS.L])
def aFG:∀(s:CS) (w:WH) (m:Int),0<=m->Vl p ro w s->Vl p ro w (bN s m fm).1 :=by
 refine CS.ind λs ih w m hm hv=> ?_;have hs:=C0.1 hv
 by_cases h0:m=0
 ·have:(bN s m fm).1 =fm:=by cases s;simp only [bN,if_pos h0]
  rw [this];exact aFj hs.1.deep
 have step:∀{y y':CS},y∈s.kids->Ch fm y y'->∀{w},Vl p ro w y->Vl p ro w y':=by
  intro y y' hy hc w hv;rcases hc with rfl|⟨n,hn,rfl⟩
  ·exact hv
  ·exact ih y hy w n hn hv
 generalize dI:(e8 s.D (m- 1) fm).2 =n1;generalize tL:(fQ s.L n1 fm).2 =n2;generalize eo:(gZ s.H n2 fm).2 =n3;have e:(bN s m fm).1 = .mk s.f (fQ s.L n1 fm).1 (e8 s.D (m- 1) fm).1 (gZ s.H n2 fm).1 (jh s.A n3 fm).1 :=by
  subst eo tL dI;cases s;simp only [bN,if_neg h0];rfl
 have cL:=chL fm s.L n1;have cD:=chD fm s.D (m- 1);have cH:=chH fm s.H n2;have cA:=chA fm s.A n3;rw [e];generalize (fQ s.L n1 fm).1 =L' at*;generalize (e8 s.D (m- 1) fm).1 =D' at*;generalize (gZ s.H n2 fm).1 =H' at*;generalize (jh s.A n3 fm).1 =A' at*;rw [C0];refine⟨hs.1.ch cL.1 cL.2 (by simp [CS.D,cD.1]) (by simp [CS.H,cH.1]) (by simp [CS.A,cA.1]),?_⟩;have g:=hs.2;show if s.f.kind=9 then∀s0,L'=[s0]->Sc (Vl p ro) p (lJ w) s.f D' s0 H' else if s.f.kind=19 then∀s0,L'=[s0]->Se (Vl p ro) p ro (lJ w) s.f s0 A' else∀j (h:j<L'.length),Vl p ro (j5 (cJ (lJ w) s.f) s.f (j:Nat)) L'[j];have one:∀{Lw},L'=[Lw]->∃s0,s.L=[s0]∧Ch fm s0 Lw:=by
  intro Lw h;have h1:s.L.length=1:=by rw [<-cL.1,h];rfl
  match hL:s.L,h1 with
  | [s0],_=>
    refine⟨s0,rfl,?_⟩;have:=cL.2 0 (by rw [hL];simp) (by rw [h];simp);simpa [hL,h]using this
 by_cases k9:s.f.kind=9
 ·rw [if_pos k9]at g⊢;intro Lw h;obtain⟨s0,hL,hc⟩:=one h;obtain⟨g1,g2,g3,g4,g5⟩:=g s0 hL;refine⟨?_,λj hj=> ?_,step (xo (by rw [hL];simp)) hc g3,?_,λj hj=> ?_⟩
  ·unfold qZ ln at g1⊢;simpa [cD.1,cH.1]using g1
  ·have iK:j<s.D.length:=by rw [<-cD.1];exact hj
   have:=cD.2 j iK hj;exact⟨step (qh (dy iK)).1 this.1 (g2 j iK).1,step (qh (dy iK)).2 this.2 (g2 j iK).2⟩
  ·rw [cH.1,cH.2.1];exact g4
  ·have iK:j<s.H.length:=by rw [<-cH.1];exact hj
   exact step (AN (dy iK)) (cH.2.2 j iK hj) (g5 j iK)
 ·rw [if_neg k9]at g⊢
  by_cases xC:s.f.kind=19
  ·rw [if_pos xC]at g⊢;intro Lw h;obtain⟨s0,hL,hc⟩:=one h;obtain⟨g1,g2,g3,g4⟩:=g s0 hL;refine⟨?_,step (xo (by rw [hL];simp)) hc g2,λj hj=> ?_,?_⟩
   ·have hx:=hc.nl;unfold rH ln at g1⊢;rw [ey]at g1⊢;rw [cA.1];revert g1;cases decide (((s.A.length:Nat):Int)<1)<;>cases decide (16<((s.A.length:Nat):Int))<;>cases s.f.els<;>simp
    exact hx
   ·have iK:j<s.A.length:=by rw [<-cA.1];exact hj
    obtain⟨c1,c2,c3⟩:=cA.2.2 j iK hj;obtain⟨⟨q1,q2⟩,q3,q4⟩:=g3 j iK;have e1:A'[j].kind =s.A[j].kind :=rM (·.1) c1;have e2:A'[j].guard =s.A[j].guard :=rM (·.2.1) c1;have e3:A'[j].entry =s.A[j].entry :=rM (·.2.2.1) c1;have e4:A'[j].E =s.A[j].E :=rM (·.2.2.2) c1;refine⟨⟨?_,?_⟩,?_,step (qi (dy iK)).2 c3 q4⟩
    ·unfold Al rI at q1⊢;rw [e1,e2,e3,e4];exact q1
    ·unfold qn at q2⊢;rw [e1];revert q2;cases s.A[j].kind ==1
     ·cases uK s.A[j].kind
      ·simp only [cE,bM];exact λ⟨a,b⟩=>⟨c2.nl a,c3.nl b⟩
      ·exact c2.nl
     ·exact id
    ·have:dA (rq (lJ w)) A'[j]=dA (rq (lJ w)) s.A[j]:=by unfold dA;rw [e1,e3]
     rw [this];exact step (qi (dy iK)).1 c2 q3
   ·rw [cA.2.1];exact g4
  ·rw [if_neg xC]at g⊢;intro j hj;have iK:j<s.L.length:=by rw [<-cL.1];exact hj
   exact step (xo (dy iK)) (cL.2 j iK hj) (g j iK)
end
end
section
variable{ro:List RO}
def chT(b:CS):∀(l:List TK) (n:Int),(jV l n b).1.length =l.length∧(jV l n b).1.any (λt=> !sf t)=l.any (λt=> !sf t)∧(∀p t r,nx p t (jV l n b).1 r=nx p t l r)∧∀j (h:j<l.length) (h':j<(jV l n b).1.length),(jV l n b).1[j].au =l[j].au ∧Ch b l[j].body (jV l n b).1[j].body
 | [],n=>by simp only [jV];exact⟨trivial,trivial,λ_ _ _=>trivial,λj h=>absurd h (by simp)⟩
 |s::ss,n=>by
  have ih:=chT b ss (bN s.body n b).2;simp only [jV]
  by_cases h0:n<0
  ·simp only [if_pos h0];exact⟨trivial,trivial,λ_ _ _=>trivial,λj _ _=>⟨trivial,.inl rfl⟩⟩
  ·simp only [if_neg h0];refine⟨JU,?_,λp t r=> ?_,λj h h'=> ?_⟩
   ·rw [Cf,Cf,ih.2.1];rfl
   ·simp only [nx];congr 1;funext r;exact ih.2.2.1 p (t+1) r
   ·cases j with
    |zero=>exact⟨rfl,.inr ⟨n,by omega,rfl⟩⟩
    |succ j=>exact ih.2.2.2 j (jU) (J1)
section
variable {p:PG} {ts:List TK}
def aia:∀(t e:Int) (os:cW) (ro:List RO),lQ (pT p ts) t e os ro=lQ p t e os ro
 |_,_,[],_=>rfl
 |t,e,o::os,ro=>by simp only [lQ,aia t e os];rfl
def alc(t:Int):∀(ys:List EN) (e:Int) (ro:List RO),ql (pT p ts) t e ys ro=ql p t e ys ro
 | [],_,_=>rfl
 |y::ys,e,ro=>by
  simp only [ql,zJ,aia]
  congr 1
  funext r
  exact alc t ys (e+1) r
def aip:∀(l:List TK) (t:Int) (ro:List RO),nx (pT p ts) t l ro=nx p t l ro
 | [],_,_=>rfl
 |x::xs,t,ro=>by
  simp only [nx,alc]
  congr 1
  funext r
  exact aip xs (t+1) r
def MP.ct(hp:p.Ok)(h:MP p)(hf:vq p=some ro)(hs:aaK p.tasks ts):CT p ts ro:=by
 obtain⟨h1,h2,h3,h4,h5⟩:=YN h.hd;obtain⟨i1,i2,i3,i4⟩:=Xq hf;exact⟨hs,hp,ahY hp.bu h1,i1,λr hr=>by
  rcases i2 r hr with h|⟨h,_⟩|⟨_,h⟩
  ·exact .inl h
  ·exact .inr (.inl h)
  ·exact .inr (.inr h),h3,h5,λt ht e he=>by
   obtain⟨a,b⟩:=i4 t ht e he;obtain⟨a1,a2⟩:=wQ hp.bu a;obtain⟨b1,b2⟩:=wQ hp.bu b;exact⟨a2,b2,a1,b1⟩⟩
def oz(p:PG):ST p 8192 (az []) λ_=>0:=⟨wV,λt=>J4,λt=>by simp,by omega,by omega,λt h=>absurd rfl h⟩
def aGL(hE:kO)(ct:CT p ts ro)(cq:CT (pT p ts) ts ro){w:WH}(hw:WI p w)(Tf:WI (pT p ts) w){s:CS}(hs:s.Ok)(hk:(ez s).length <=8192)(h:Vl p ro w s):Vl (pT p ts) ro w s:=by
 obtain⟨b,l1,_,_,_,f1,_,s1⟩:=stE ct hE s hs w hw 8192 _ _ (oz p);obtain⟨b',l2,_,_,_,f2,_,s2⟩:=stE cq hE s hs w Tf 8192 _ _ (oz (pT p ts));have hb:b=true:=s1.1.2 ⟨h,by omega⟩;subst hb;have u:=f1.uniq f2;have:=s1.2 rfl;cases b' with
 |true=>exact(s2.1.1 rfl).1
 |false=>
  injection u with _ u;injection u with u _;injection u with _ u;simp only [cf,cE]at u;omega
def oW(t:Int)(f:dk):Nat:=if f.kind=9 then f.Ts.count t else 0
mutual
theorem DR(t:Int):∀s:CS,jW s t=Wt (oW t) (ez s)
 | .mk f l d h a=>by simp only [jW,ez,JM,vt,owL t l,owD t d,owH t h,owA t a];rfl
theorem owL(t:Int):∀l:List CS,ij l t=Wt (oW t) (gp l)
 | []=>rfl
 |s::ss=>by simp only [ij,gp,vt,DR t s,owL t ss]
theorem owD(t:Int):∀l:List CD,qO l t=Wt (oW t) (iN l)
 | []=>rfl
 | .mk d u::ss=>by simp only [qO,abl,iN,AJ,vt,DR t d,DR t u,owD t ss]
theorem owH(t:Int):∀l:List CH,qN l t=Wt (oW t) (j8 l)
 | []=>rfl
 | .mk e b::ss=>by simp only [qN,abk,j8,yP,vt,DR t b,owH t ss]
theorem owA(t:Int):∀l:List CA,qP l t=Wt (oW t) (kc l)
 | []=>rfl
 | .mk k g m e b a::ss=>by simp only [qP,abm,kc,AK,vt,DR t b,DR t a,owA t ss]
end
def owT(t:Int):∀l:List TK,gP l t=Wt (oW t) (fV l)
 | []=>rfl
 |s::ss=>by simp only [gP,fV,vt,DR t s.body,owT t ss]
def aiy:∀{l:List TK} {j:Nat} (h:j<l.length),(ez l[j].body).length <=(fV l).length
 |s::ss,0,_=>by simp only [fV,e7,List.getElem_cons_zero];omega
 |s::ss,j+1,h=>by
  have:=aiy (l:=ss) (j:=j) (jU);simp only [fV,e7,List.getElem_cons_succ];omega
def aiB:fm.Ok:=En.to ⟨aGl 1 xz (by simp [xz]),by simp [fm,CS.L,mx],by simp [fm,CS.D,mx],by simp [fm,CS.H,mx],by simp [fm,CS.A,mx],by simp [fm,CS.L],by simp [fm,CS.D],by simp [fm,CS.H],by simp [fm,CS.A]⟩
def MP.nul(hp:p.Ok)(hE:kO)(h:MP p){n:Nat}(hn:n<(fV p.tasks).length)(ht:∀t,Wt (oW t) (ez (fV p.tasks)[n])=0):MP (uu p (n:Int) fm):=by
 obtain⟨c1,c2,c3,c4⟩:=chT fm p.tasks (n:Int);have wt:∀g:dk->Nat,Wt g (fV (jV p.tasks (n:Int) fm).1)+Wt g (ez (fV p.tasks)[n])=Wt g (fV p.tasks)+Wt g (ez fm):=λg=>
  (((lpT (g:=g) p.tasks (n:Int) fm (.inr (by omega))).2 (by omega)).hit (by omega)).2 _ (by rw [mU];exact dD hn)
 have aml:aaK p.tasks (jV p.tasks (n:Int) fm).1 :=by
  refine⟨c1,λi=> ?_⟩;unfold ml
  by_cases hi:i.toNat<p.tasks.length
  ·rw [lN,lN,dD hi,dD (by omega)];exact(c4 _ hi (by omega)).1
  ·rw [lN,lN,yl (by omega),yl (by omega)]
 obtain⟨ro,hr,hv⟩:=h.ro;have Hh:=ahQ hp (n:=(n:Int)) aiB;have hd:n6 (uu p (n:Int) fm)=true:=by
  have:=h.hd;unfold n6 ln at this⊢;rw [show((uu p (n:Int) fm).tasks.map cF).length =(p.tasks.map cF).length by rw [ey,ey];exact c1];exact this
 have qw:vq (uu p (n:Int) fm)=some ro:=by
  have e:∀r,nx (uu p (n:Int) fm) 0 (uu p (n:Int) fm).tasks r=nx p 0 p.tasks r:=λr=>(aip _ _ _).trans (c3 p 0 r);rw [<-hr];unfold vq;simp only [e];rfl
 have sz:(fV (uu p (n:Int) fm).tasks).length <=8192:=by
  have:=wt λ_=>1;simp only [aFg]at this;have h1:(ez fm).length =1:=rfl;have h2:1<=(ez (fV p.tasks)[n]).length :=by rw [Py];simp
  have:=h.sz;show(fV (jV p.tasks (n:Int) fm).1).length <=8192;omega
 have ct:=h.ct hp hr aml;have cq:CT (pT p (jV p.tasks (n:Int) fm).1) (jV p.tasks (n:Int) fm).1 ro:=by
  obtain⟨h1,h2,h3,h4,h5⟩:=YN hd;exact⟨⟨rfl,λ_=>rfl⟩,Hh,ct.ol,ct.len,ct.ro,ct.eL,h5,λt ht e he=>by
   obtain⟨i1,i2,i3,i4⟩:=Xq qw;obtain⟨a,b⟩:=i4 t ht e he;obtain⟨a1,a2⟩:=wQ Hh.bu a;obtain⟨b1,b2⟩:=wQ Hh.bu b;exact⟨a2,b2,a1,b1⟩⟩
 refine⟨hd,?_,c2.trans h.tk,⟨ro,qw,λj hj=> ?_⟩,h.pr,sz,?_⟩
 ·have:=h.e0;unfold Ml at this⊢;rw [show(ml (uu p (n:Int) fm).tasks 0).au =(ml p.tasks 0).au from aml.au 0];exact this
 ·have iK:j<p.tasks.length:=by rw [<-c1];exact hj
  have hvj:=hv j iK;have D2:Vl p ro (w0 (j:Nat)) (uu p (n:Int) fm).tasks[j].body :=by
   rcases(c4 j iK hj).2 with e|⟨m,hm,e⟩
   ·show Vl p ro _ (jV p.tasks (n:Int) fm).1[j].body;rw [e];exact hvj
   ·show Vl p ro _ (jV p.tasks (n:Int) fm).1[j].body;rw [e];exact aFG _ _ _ hm hvj
  have hs:=aiy hj;exact aGL hE ct cq (Z9 iK) (Z9 (p:=pT p (jV p.tasks (n:Int) fm).1) hj) (Hh.task _ (dy hj)).body (by omega) D2
 ·have e:gP (uu p (n:Int) fm).tasks =gP p.tasks:=by
   funext t
   have:=wt (oW t);rw [ht t,show Wt (oW t) (ez fm)=0 from rfl]at this;rw [owT,owT];exact Nat.add_right_cancel this
  have l:(uu p (n:Int) fm).tasks.length =p.tasks.length:=c1;rw [e,l];exact h.one
end
end
end Go.Proofs.YtomkobcipaligaaGreatDoor
namespace Go.aA
def aj8{p:Prop}(h:p:=by
 cases b
 ·exact ax rfl (af rfl)
 ·exact br rfl (af rfl)):p:=h
end Go.aA
namespace Go.Proofs.YtomkobcipaligaaGreatDoor
open Go Go.aA
theorem agb{t:Int}:∀{l:List CS},(∀y∈l,Wt (oW t) (ez y)=0)->Wt (oW t) (gp l)=0
 | [],_=>rfl
 |s::ss,h=>by
  simp only [gp,vt];rw [h s (by simp),agb λy hy=>h y (yp)]
theorem aFn:∀s:CS,s.Ok->∃b,Ev I8 [aS s] (0,[.bool b])∧(b=false->∀t,Wt (oW t) (ez s)=0):=by
 refine CS.ind λs ih bz=> ?_;have kv:∀y∈s.kids,y.Ok:=Gv;have ao0:Ev zT [.agg (dJ (encS s))] (0,[fo s.kids]):=by rw [fF];exact Sl bz
 have hl:=Jt bz;have k:=fH (m:=s.kids.length) (P:=λi=>∃b,E (λN m=>ET (FU CX EE N) N m [iI (i:Int),fo s.kids]) (bif b then(0,[.bool true,fo s.kids])else(1,[fo s.kids]))∧(b=false->∀y∈s.kids.drop i,∀t,Wt (oW t) (ez y)=0))
  ⟨false,bD ad2 (ax (dY (f:=encS)) (af rfl)),λ_ y hy=>by rw [gK]at hy;cases hy⟩
  λi hi ⟨b,e,g⟩=>by
   obtain⟨c,e1,g1⟩:=ih _ (dy hi) (kv _ (dy hi));have hx:∀r:UO,_->E (λN m=>ET (FU CX EE N) N m [iI (i:Int),fo s.kids]) r:=λr h=>by
    refine bD ad2 (br (dx (f:=encS) hi) (aH (cN (f:=encS) hi) (aH (toN_lt (cN (f:=encS) hi)) ?_)));rw [show dJ (gA (s.kids.map encS) ((i:Int).toNat))=encS (s.kids[i]'hi)by rw [fK hi,fF]];exact Qy
   rw [show bw ((i:Int)+1)=((i+1:Nat):Int)by rw [jI (by omega) (by omega)];rfl]at hx;cases c with
   |true=>exact⟨true,hx _ (br rfl (af rfl)),λh=>aX⟩
   |false=>
    refine⟨b,hx _ (ax rfl e),λh y hy t=> ?_⟩;rw [PH hi]at hy;rcases gX.1 hy with rfl|hy
    ·exact g1 rfl t
    ·exact g h y hy t
 obtain⟨b,e,g⟩:=k;rw [gJ]at g;have g':b=false->(s.f.kind=9->s.f.Ts=[])->∀t,Wt (oW t) (ez s)=0:=λhb h9 t=>by
  rw [Py,JM,agb λy hy=>g hb y hy t];unfold oW
  by_cases k9:s.f.kind=9
  ·rw [if_pos k9,h9 k9];rfl
  ·rw [if_neg k9]
 have hk:gI (encS s) 0=s.f.kind:=ui;have hT:gR (encS s) 16=ints s.f.Ts:=ui;cases h9:s.f.kind==9 with
 |true=>
  cases Tv:decide (0<ln (ints s.f.Ts))with
  |true=>exact⟨true,bx W1 (br (by rw [hk];exact h9) (br (by rw [hT];exact Tv) (af rfl))),λh=>aX⟩
  |false=>
   refine⟨b,bx W1 (br (by rw [hk];exact h9) (ax (by rw [hT];exact Tv) (aj ao0 (aj e.diag ?_)))),λh=>g' h λ_=> ?_⟩
   ·exact aj8
   ·cases hTs:s.f.Ts with
    |nil=>rfl
    |cons a l=>rw [hTs,dB,mf]at Tv;simp at Tv
 |false=>
  refine⟨b,bx W1 (ax (by rw [hk];exact h9) (aj ao0 (aj e.diag ?_))),λh=>g' h λh=>by rw [h]at h9;cases h9⟩;exact aj8
section
variable {p:PG} (hp:p.Ok) (hE:kO)
include hp hE in
theorem aEH(hn:(fV p.tasks).length <=10000000)(n:Int):Ev EY [aG p,iI n] (0,[.bool true]):=by
 obtain⟨bg,g1⟩:=aEW hp;obtain⟨bm,m1,m2,mp⟩:=aoH hp hE;have j6:E (λN _=>VH (FU CX EE N) N [iI n,aG p]) (bif (bif bg then true else bif !bm then true else decide (n<0))then(1,[.bool true,aG p])else(0,[aG p])):=by
  refine bW ave (aj g1 (aw (c:=bg) (λa=>af (sO)) λa=>aj m2 (aw (c:= !bm) (λb=>af (oM)) λb=>aw (c:=decide (n<0)) (λc=>af (wS)) λc=>af (wS))))
 have C:∀r:UO,_->Ev EY [aG p,iI n] r:=λr h=>by
  refine bx axD (aj j6 ?_);exact h
 cases hz:(bif bg then true else bif !bm then true else decide (n<0))with
 |true=>rw [hz]at C;exact C _ (ax rfl (af rfl))
 |false=>
  rw [hz]at C;have hbm:bm=true:=by
   cases bg with
   |true=>cases hz
   |false=>cases bm with
    |true=>rfl
    |false=>cases hz
  have Bt:0<=n:=by
   cases bg with
   |true=>cases hz
   |false=>
    rw [hbm]at hz;exact JW
  rw [hbm]at m1 m2;have al:=aOX hp (by simp only [pX];omega) m2;have ac:=aOY hp (by simp only [pX];omega) m1;have C1:∀r:UO,_->Ev EY [aG p,iI n] r:=λr h=>by
   refine C r (br rfl (aj ac ?_));exact h
  cases hy:decide (ln ((fV p.tasks).map encS)<=n)with
  |true=>exact C1 _ (br hy (aj al (br (Pu _) (af rfl))))
  |false=>
   have cM:n.toNat<(fV p.tasks).length :=by
    have h1:=hy;rw [dB]at h1;simp at h1;omega
   obtain⟨k,rfl⟩:∃k:Nat,n=(k:Int):=⟨n.toNat,by omega⟩;rw [mU]at cM;have fG:ib (k:Int) ((fV p.tasks).map encS).length =true:=qM (by simpa using cM);have gs:dJ (gA ((fV p.tasks).map encS) ((k:Int).toNat))=encS (fV p.tasks)[k]:=by rw [fK cM,fF]
   have hc:=ahl p.tasks hp.task _ (dy cM);obtain⟨bt,t1,t2⟩:=aFn _ hc;have t1':Ev I8 [.agg (dJ (gA ((fV p.tasks).map encS) ((k:Int).toNat)))] (0,[.bool bt]):=by rw [gs];exact t1
   have C2:∀r:UO,_->Ev EY [aG p,iI (k:Int)] r:=λr h=>by
    refine C1 r (ax hy (aH fG (aH (toN_lt fG) (aj t1' ?_))));exact h
   cases bt with
   |true=>exact C2 _ (br rfl (af rfl))
   |false=>
    have nb:(k:Int)<=nB:=by simp only [nB];omega
    have hq1:=aFE hp (.inr Bt) nb fm;have Hh:=ahQ hp (n:=(k:Int)) aiB;obtain⟨bq,q1,_,q3⟩:=aoH Hh hE;have hq:bq=true:=q3.2 ((mp.1 hbm).nul hp hE cM (t2 rfl));rw [hq]at q1;exact C2 _ (ax rfl (aj hq1 (aj q1 (br rfl (af rfl)))))
end
end Go.Proofs.YtomkobcipaligaaGreatDoor
