/-
  The examples: works answers true.
-/
import Derived.Test.YtffabbjfdgmbjaaGreatW5
import Derived.Test.YtffabbjfdgmbjaaGreatW4
import Derived.Test.YtffabbjfdgmbjaaGreatW3
import Derived.KernelRfl
set_option linter.all false
set_option linter.deprecated false
set_option maxHeartbeats 4000000
namespace Go.ah
def api{p:Prop}(h:p:=by
 cases t with
 |mk a b c d=>cases c;rfl):p:=h
end Go.ah
namespace Go.Proofs.B.C
open Go Go.ah
section
variable{q:PR}
theorem av7(t:TK):gI (cA t) 23=t.dead:=api
theorem av5(t:TK):gI (cA t) 0=t.prio:=rfl
theorem av6(t:TK):gR (cA t) 1=t.aJ.map nM:=rfl
theorem ato(t:TK):aF fC 2 (cA t)=encS t.body:=api
theorem aQg(q:PR):aF Tc 0 (il q)=il q:=rfl
abbrev aQ(q:PR):AV:= aa (il q)
def zw(t:TK):Bool:=bif decide (t.prio<0)then false else bif decide (31<t.prio)then false else bif decide (8<ln (t.aJ.map nM))then false else bif decide (t.dead<0)then false else !decide (2147483647<t.dead)
def FM(q:PR):Bool:=bif decide (q.ceil<0)then false else bif decide (31<q.ceil)then false else !decide (8<ln (q.bars.map aH))
section
variable {p:PG} (hp:p.Ok)
include hp in
theorem mtC:bS NF [ng (p.tasks.map cA),iI (ln (p.tasks.map cA)),iI 0] (bif p.tasks.any (λt=> !zw t)then(0,[aT])else(1,[])):=by
 refine CQ (l:=p.tasks) (p:=λt=> !zw t) (LF:=λi N m=>NF (FU CX EE N) N m [ng (p.tasks.map cA),iI (ln (p.tasks.map cA)),iI (i:Int)])
  (aY akY (au dw aD))
  λi hi r a b=>aY akY (aV (cZ hi) (az (cw hi) ?_))
 rw [gf hi,av5,av6,av7,ix hi hp.tasks];refine ax (c:=decide (p.tasks[i].prio <0)) (λc=>ab (a ?_)) λc=>ax (c:=decide (31<p.tasks[i].prio)) (λd=>ab (a ?_)) λd=>ax (c:=decide (8<ln (p.tasks[i].aJ.map nM))) (λe=>ab (a ?_)) λe=>ax (c:=decide (p.tasks[i].dead <0)) (λf=>ab (a ?_)) λf=>ax (c:=decide (2147483647<p.tasks[i].dead)) (λg=>ab (a ?_)) λg=>b ?_
 ·unfold zw;rw [c];rfl
 ·unfold zw;rw [c,d];rfl
 ·unfold zw;rw [c,d,e];rfl
 ·unfold zw;rw [c,d,e,f];rfl
 ·unfold zw;rw [c,d,e,f,g];rfl
 ·unfold zw;rw [c,d,e,f,g];rfl
theorem mtR(hp:p.Ok)(h:p.tasks.any (λt=> !zw t)=false):bS ND [iI 0,aG p] (1,[aG p]):=
 fP (m:=p.tasks.length) (P:=λi=>bS ND [iI (i:Int),aG p] (1,[aG p]))
  (aY akW (au (dw (f:=cA) (l:=p.tasks)) aD))
  λi hi ih=>aY akW (aV (cZ (f:=cA) hi) (az (cw (f:=cA) hi) (by
   have ht:zw p.tasks[i]=true:=by simpa using zY.1 h _ (cY hi)
   simp only [zw,GM,iT,Od,bA,iy,ui]at ht;obtain⟨a,b,c,d,e⟩:=ht;rw [show gA (gR (jB p) 2) ((i:Int).toNat)=cA p.tasks[i]from gf hi,av5,av6,av7,ix hi hp.tasks];exact au (c:=decide (p.tasks[i].prio <0)) (eE) (au (c:=decide (31<p.tasks[i].prio)) (eE) (au (c:=decide (8<ln (p.tasks[i].aJ.map nM))) (by simp only [ui];exact c) (au (c:=decide (p.tasks[i].dead <0)) (eE) (au (c:=decide (2147483647<p.tasks[i].dead)) (eE) ih)))))))
theorem aYB(h:FM q=true):bY abj [aQ q] (0,[aQ q]):=by
 simp only [FM,GM,iT,Od,bA,iy,ui]at h;obtain⟨a,b,c⟩:=h;exact bX aFy (au (c:=decide (q.ceil<0)) (eE) (au (c:=decide (31<q.ceil)) (eE) (au (c:=decide (8<ln (q.bars.map aH))) (by simp only [ui];exact c) aD)))
theorem aYC(q:PR):bY aaG [aQ q] (bif FM q then(0,[aQ q])else(1,[aT,aQ q])):=by
 refine bX aDl (ax (c:=decide (q.ceil<0)) (λc=>ab ?_) λc=>ax (c:=decide (31<q.ceil)) (λd=>ab ?_) λd=>ax (c:=decide (8<ln (q.bars.map aH))) (λe=>ab ?_) λe=>ab ?_)
 ·unfold FM;rw [c];rfl
 ·unfold FM;rw [c,d];rfl
 ·unfold FM;rw [c,d,e];rfl
 ·unfold FM;rw [c,d,e];rfl
theorem aPV(hE:pD)(ol:OL p.bq)(hq:q.Ok)(hr:∀x∈q.nu,ib x p.bq.length=true):∃b,
 bS Gm [bR (q.bars.map aH),iI (ln (q.bars.map aH)),iI 0,aG p,aQ q] (bif b then(1,[aG p,aQ q])else(0,[aT,aG p,aQ q]))/\(b=true->bS Nd [iI 0,aG p,aQ q] (1,[aG p,aQ q])):=by
 have k:=fP (m:=q.bars.length) (P:=λi=>∃b,
  bS Gm [bR (q.bars.map aH),iI (ln (q.bars.map aH)),iI (i:Int),aG p,aQ q] (bif b then(1,[aG p,aQ q])else(0,[aT,aG p,aQ q]))/\(b=true->bS Nd [iI (i:Int),aG p,aQ q] (1,[aG p,aQ q])))
  ⟨true,aY ajF (au dw aD),λ_=>aY ajX (au (dw (f:=aH) (l:=q.bars)) aD)⟩
  λi hi ih=>by
   have hm:=cY hi;have he:=hq.bars.2 _ hm;obtain⟨s,b,o1,o3⟩:=ofE hE ol (ln (q.bars.map aH)) q.bars[i] he;have C:∀r:UO,_->bS Gm [bR (q.bars.map aH),iI (ln (q.bars.map aH)),iI (i:Int),aG p,aQ q] r:=λr h=>by
    refine aY ajF (aV (cZ hi) (az (cw hi) ?_));rw [vW hi];refine ae o1 ?_;exact h
   cases b with
   |false=>exact⟨false,C _ (bh aD),λh=>aM⟩
   |true=>
    have c2:=E8 s;cases hb:om s with
    |false=>
     rw [hb]at c2;exact⟨false,C _ (bm (ae c2 (bh aD))),λh=>aM⟩
    |true=>
     rw [hb]at c2;obtain⟨b,p1,p2⟩:=aNj hq.nu hr q.bars[i] he;have C2:∀r:UO,_->bS Gm [bR (q.bars.map aH),iI (ln (q.bars.map aH)),iI (i:Int),aG p,aQ q] r:=λr h=>by
      refine C r (bm (ae c2 (bm (ae p1 ?_))));exact h
     cases b with
     |false=>exact⟨false,C2 _ (bh aD),λh=>aM⟩
     |true=>
      obtain⟨b,ih,ir⟩:=ih;rw [<-ix hi hq.bars.1]at ih ir;refine⟨b,C2 _ (bm ih),λh=> ?_⟩;obtain⟨t,o2,ri,_⟩:=o3 rfl;have r2:=E7 t;rw [<-ri.rel.om,hb]at r2;refine aY ajX (aV (cZ (f:=aH) hi) (az (cw (f:=aH) hi) ?_));rw [show aF qP 0 (gA (gR (il q) 2) ((i:Int).toNat))=aH (q.bars[i]'hi)from vW hi];exact ae o2 (bm (ae r2 (bm (az (cw (f:=aH) hi) (ae (p2 rfl) (bm (ir h)))))))
 exact k
include hp in
theorem aNi(hE:pD)(ol:OL p.bq)(hr:∀q∈p.bW,∀x∈q.nu,ib x p.bq.length=true):∃b,
 bS JG [uf (p.bW.map il),iI (ln (p.bW.map il)),iI 0,aG p] (bif b then(1,[aG p])else(0,[aT,aG p]))/\(b=true->bS Nv [iI 0,aG p] (1,[aG p])):=by
 have k:=fP (m:=p.bW.length) (P:=λi=>∃b,
  bS JG [uf (p.bW.map il),iI (ln (p.bW.map il)),iI (i:Int),aG p] (bif b then(1,[aG p])else(0,[aT,aG p]))/\(b=true->bS Nv [iI (i:Int),aG p] (1,[aG p])))
  ⟨true,aY akk (au dw aD),λ_=>aY akE (au (dw (f:=il) (l:=p.bW)) aD)⟩
  λi hi ih=>by
   have hm:=cY hi;have gq:aF Tc 0 (gA (p.bW.map il) ((i:Int).toNat))=il p.bW[i]:=by rw [gf hi,aQg]
   have c1:=aYC p.bW[i];have C:∀r:UO,_->bS JG [uf (p.bW.map il),iI (ln (p.bW.map il)),iI (i:Int),aG p] r:=λr h=>by
    refine aY akk (aV (cZ hi) (az (cw hi) ?_));rw [gq];refine ae c1 ?_;exact h
   cases hb:FM p.bW[i]with
   |false=>
    rw [hb]at C;exact⟨false,C _ (bm aD),λh=>aM⟩
   |true=>
    rw [hb]at C;obtain⟨b,bb,br⟩:=aPV hE ol (hp.nK _ hm) (hr _ hm);cases b with
    |false=>exact⟨false,C _ (bh (ae bb.diag (bh aD))),λh=>aM⟩
    |true=>
     obtain⟨b,ih,ir⟩:=ih;rw [<-ix hi hp.bW]at ih ir;refine⟨b,C _ (bh (ae bb.diag (bm ih))),λh=> ?_⟩;refine aY akE (aV (cZ (f:=il) hi) (az (cw (f:=il) hi) ?_));rw [show aF Tc 0 (gA (gR (jB p) 3) ((i:Int).toNat))=il (p.bW[i]'hi)from gq];exact ae (aYB hb) (bh (ae (br rfl).diag (bm (ir h))))
 exact k
end
end
end Go.Proofs.B.C
namespace Go.ah
def V5{p:Prop}(h:p:=by
 show aF fC 2 (gA (p.tasks.map cA) ((i:Int).toNat))=_;rw [gf hi,ato]):p:=h
end Go.ah
namespace Go.Proofs.B.C
open Go Go.ah
section
variable{c:Int->Nat}
def lW:List TK->Int->Nat
 | [],_=>0
 |x::xs,t=>oH x.body t+lW xs t
def w0(t:Int):WH:=⟨t,[],[],[],[],[],false,false,false,-1,0⟩
section
variable {p:PG} {ro:List RO}
def aN9{i:Nat}(hi:i<p.tasks.length):WI p (w0 i):=
 ⟨⟨.inl (ET),(by intro a h;cases h),u9 hi⟩,vR _,vR _,vR _,vR _,vR _,by show(0:Int)<=64;omega⟩
abbrev K2(p:PG)(lf:Int):AV:= aa (ep 2 1 p lf)
def aXJ(ct:CT p p.tasks ro)(hE:pD):∀lf cn cc,ST p lf cn cc->∃b ev cQ,bz (aJ cQ)=cQ/\
 bS JF [ng (p.tasks.map cA),iI (ln (p.tasks.map cA)),iI 0,K2 p lf,.aj 0 cn,cR ro] (bif b then(1,[K2 p ev,.aj 0 cQ,cR ro])else(0,[aT,K2 p ev,.aj 0 cQ,cR ro]))/\(b=true->(∃d,ST p ev cQ d/\((∀t∈p.tasks,gY t.body)->∀t,d t=cc t+lW p.tasks t))/\(∀t∈p.tasks,mr p t.body)/\((∀t∈p.tasks,gY t.body)->NE p->bS Nu [rR ro,iI lf,iI 0,aG p] (0,[iI ev,aG p]))):=by
 have k:=fP (m:=p.tasks.length) (P:=λi=>∀lf cn cc,ST p lf cn cc->∃b ev cQ,bz (aJ cQ)=cQ/\
  bS JF [ng (p.tasks.map cA),iI (ln (p.tasks.map cA)),iI (i:Int),K2 p lf,.aj 0 cn,cR ro] (bif b then(1,[K2 p ev,.aj 0 cQ,cR ro])else(0,[aT,K2 p ev,.aj 0 cQ,cR ro]))/\(b=true->(∃d,ST p ev cQ d/\((∀t∈p.tasks,gY t.body)->∀t,d t=cc t+lW (p.tasks.drop i) t))/\(∀t∈p.tasks.drop i,mr p t.body)/\((∀t∈p.tasks,gY t.body)->NE p->bS Nu [rR ro,iI lf,iI (i:Int),aG p] (0,[iI ev,aG p]))))
  (λlf cn cc st=>⟨true,lf,cn,st.pk,aY akj (au dw (ab (by rw [st.pk];rfl))),λ_=>⟨⟨_,st,λ_ t=>by rw [jE];simp [lW]⟩,(λy hy=>OY),λ_ _=>aY akD (au (dw (f:=cA) (l:=p.tasks)) aD)⟩⟩)
  λi hi ih lf cn cc st=>by
   have hk:=ct.ok.task _ (cY hi);obtain⟨b,l1,c1,lC,e1,g1⟩:=stE ct hE p.tasks[i].body hk.body (w0 i) (aN9 hi) lf cn cc st;have gb:aF fC 2 (gA (p.tasks.map cA) ((i:Int).toNat))=encS p.tasks[i].body :=by rw [gf hi,ato]
   have C:∀r:UO,_->bS JF [ng (p.tasks.map cA),iI (ln (p.tasks.map cA)),iI (i:Int),K2 p lf,.aj 0 cn,cR ro] r:=λr h=>by
    refine aY akj (aV (cZ hi) (az (cw hi) ?_));rw [gb,st.pk];exact aen
   rw [ix hi ct.ok.tasks]at C;cases b with
   |false=>
    refine⟨false,l1,c1,lC,C _ (bh (ab ?_)),λh=>aM⟩;erw [lC];rfl
   |true=>
    obtain⟨⟨d1,s1,q1⟩,f1,k1⟩:=g1 rfl;obtain⟨b,l2,c2,mI,e2,g2⟩:=ih l1 c1 _ s1;have hm:=cY hi;refine⟨b,l2,c2,mI,C _ (bm ?_),λh=> ?_⟩
    ·erw [lC];exact e2
    ·obtain⟨⟨d2,s2,q2⟩,f2,k2⟩:=g2 h;rw [jj hi];refine⟨⟨d2,s2,λka t=>by rw [q2 ka,q1 (ka _ hm)];simp only [lW];omega⟩,λy hy=> ?_,λka ne=> ?_⟩
     ·exact ae1
     ·refine aY akD (aV (cZ (f:=cA) hi) (aV (c:=decide (0<=lf)) (Vb) (az (cw (f:=cA) hi) ?_)));rw [show aF fC 2 (gA (gR (jB p) 2) ((i:Int).toNat))=encS (p.tasks[i]'hi).body from gb];refine ae (k1 (ka _ hm) ne) ?_;rw [ix hi ct.ok.tasks];exact k2 ka ne
 intro lf cn cc st;exact k lf cn cc st
def agY(n:Nat)(c:Int->Nat):Bool:=(List.range (n- 1)).any λi=>(c ((i+1:Nat):Int):Int) != 1
def aZP{lf:Int}{cn:aE}(st:ST p lf cn c)(h1:1<=p.tasks.length)(hl:p.tasks.length<=32):
 bS JE [iI (ln (p.tasks.map cA)),iI 0,K2 p lf,.aj 0 cn,cR ro] (bif agY p.tasks.length c then(0,[aT,K2 p lf,.aj 0 cn,cR ro])else(1,[K2 p lf,.aj 0 cn,cR ro])):=by
 rw [c9];have k:=Hl (m:=p.tasks.length- 1) (p:=λi=>(c ((i+1:Nat):Int):Int) != 1) (hit:=(0,[aT,K2 p lf,.aj 0 cn,cR ro])) (done:=(1,[K2 p lf,.aj 0 cn,cR ro]))
  (LF:=λi N m=>JE (FU CX EE N) N m [iI (p.tasks.length:Int),iI ((i+1:Nat):Int),K2 p lf,.aj 0 cn,cR ro])
  (aY aaM (au (by simp<;>omega) (ab (by rw [st.pk];rfl))))
  λi hi r a b=>aY aaM (aV (by simp<;>omega) (aV (by simp<;>omega) ?_))
 ·refine aY aaM (aV (eE) (bm ?_));rw [st.pk];exact k
 ·rw [st.pk,st.rep]
  by_cases h0:c ((i+1:Nat):Int)=0
  ·rw [if_pos h0];exact ab (a (by rw [h0];rfl))
  ·rw [if_neg h0];refine ax (c:=((c ((i+1:Nat):Int):Int) != 1)) (λd=>ab (a d)) λd=> ?_;have:=b d;rw [J8 (by omega)];exact iK
def aZN(h1:1<=p.tasks.length)(hl:p.tasks.length<=32)(h:agY p.tasks.length c=false):
 bS Np [iI 1,aG p,aw (ints (cl p.tasks.length c))] (1,[aG p,aw (ints (cl p.tasks.length c))]):=
 fP (m:=p.tasks.length- 1) (P:=λi=>bS Np [iI ((i+1:Nat):Int),aG p,aw (ints (cl p.tasks.length c))] (1,[aG p,aw (ints (cl p.tasks.length c))]))
  (aY akf (au (by show decide (((p.tasks.length- 1+1:Nat):Int)<ln (p.tasks.map cA))=false;rw [c9];simp<;>omega) aD))
  λi hi ih=>aY akf (aV (by show decide (((i+1:Nat):Int)<ln (p.tasks.map cA))=true;rw [c9];simp;omega) (by
   have tp:ib ((i+1:Nat):Int) p.tasks.length=true:=u9 (by omega);have avU:ib ((i+1:Nat):Int) (ints (cl p.tasks.length c)).length =true:=by rw [dW,EL];exact tp
   have bI:i+1<(cl p.tasks.length c).length :=by rw [EL];omega
   have hv:=af5 (c:=c) tp;have hg:gI (gA (ints (cl p.tasks.length c)) (((i+1:Nat):Int).toNat)) 0=(c ((i+1:Nat):Int):Int):=by
    rw [ow]at hv⊢;rw [Wd bI];exact hv
   rw [hg,J8 (by omega)];exact az avU (az (toN_lt avU) (au (by simpa using zY.1 h i (xJ.2 hi)) ih))))
def aQz(hp:p.Ok){c0:Int->Nat}(hr:∀t,lW p.tasks t≠0->ib t p.tasks.length=true)(hb:∀t,c0 t+lW p.tasks t<=100000):
 bS Nq [iI 0,aG p,aw (ints (cl p.tasks.length c0))] (0,[aG p,aw (ints (cl p.tasks.length λt=>c0 t+lW p.tasks t))]):=by
 have BC:∀(i:Nat) (hi:i<p.tasks.length) t,oH p.tasks[i].body t<=lW p.tasks t:=λi hi t=>by
  have app:∀a b:List TK,lW (a++b) t=lW a t+lW b t:=λa b=>by
   induction a with
   |nil=>simp [lW]
   |cons x a ih=>simp only [pM,lW,ih];omega
  have:lW p.tasks t=lW (p.tasks.take i) t+lW (p.tasks.drop i) t:=by rw [<-app,Oj]
  rw [this,jj hi];simp only [lW];omega
 have k:=fP (m:=p.tasks.length) (P:=λi=>∀c:Int->Nat,(∀t,c t+lW (p.tasks.drop i) t<=100000)->bS Nq [iI (i:Int),aG p,aw (ints (cl p.tasks.length c))] (0,[aG p,aw (ints (cl p.tasks.length λt=>c t+lW (p.tasks.drop i) t))]))
  (λc _=>by
    rw [jE];refine aY akg (au (dw (f:=cA) (l:=p.tasks)) (ab ?_));have:(λt=>c t+lW [] t)=c:=by funext t;simp [lW]
    rw [this];rfl)
  λi hi ih c hb=>by
   have hk:=hp.task _ (cY hi);have gb:aF fC 2 (gA (gR (jB p) 2) ((i:Int).toNat))=encS p.tasks[i].body :=V5;have e2:(λt=>c t+lW (p.tasks.drop i) t)=λt=>(c t+oH p.tasks[i].body t)+lW (p.tasks.drop (i+1)) t:=by
    funext t;rw [jj hi];simp only [lW];omega
   have j:=aQA (n:=p.tasks.length) p.tasks[i].body hk.body c (λt ht=>hr t (by have:=BC i hi t;omega)) (λt=>by have:=hb t;rw [Un e2 t]at this;omega);refine aY akg (aV (cZ (f:=cA) hi) (az (cw (f:=cA) hi) ?_));rw [gb,ix hi hp.tasks];refine ae j ?_;rw [e2];exact ih (λt=>c t+oH p.tasks[i].body t) (λt=>apO)
 have:=k c0 (G6);rw [nU]at this;exact this
def vJ(p:PG):Bool:=bif !yi p.bq then false else bif decide (p.gv<4)then false else bif decide (64<p.gv)then false else bif decide (ln (p.tasks.map cA)<1)then false else bif decide (32<ln (p.tasks.map cA))then false else !decide (32<ln (p.bW.map il))
def Yq(p:PG):Bool:=decide (0<ln ((dH p.tasks 0).aJ.map nM))
def Oz(h:vJ p=true):yi p.bq=true/\4<=p.gv/\p.gv<=64/\1<=p.tasks.length/\p.tasks.length<=32:=by
 unfold vJ at h;cases a:yi p.bq with
 |false=>rw [a]at h;cases h
 |true=>
  cases b:decide (p.gv<4)with
  |true=>rw [a,b]at h;cases h
  |false=>
   cases c:decide (64<p.gv)with
   |true=>rw [a,b,c]at h;cases h
   |false=>
    cases d:decide (ln (p.tasks.map cA)<1)with
    |true=>rw [a,b,c,d]at h;cases h
    |false=>
     cases e:decide (32<ln (p.tasks.map cA))with
     |true=>rw [a,b,c,d,e]at h;cases h
     |false=>
      rw [c9]at d e;simp at b c d e;exact⟨rfl,by omega,by omega,by omega,by omega⟩
def g0t(h:1<=p.tasks.length):gR (gA (p.tasks.map cA) 0) 1=(dH p.tasks 0).aJ.map nM:=by
 have:=C6 (l:=p.tasks) (i:=0) (u9 (i:=0) (by omega));rw [show(0:Int).toNat =0 from rfl]at this;exact iV
def aOU(hp:p.Ok):bY ab9 [aG p] (bif vJ p&& !Yq p then(0,[aG p])else(1,[aT,aG p])):=by
 refine bX aH6 (ae (aYt hp.bq hp.obj) (ax (c:= !yi p.bq) (λa=>ab ?_) λa=>ax (c:=decide (p.gv<4)) (λb=>ab ?_) λb=>ax (c:=decide (64<p.gv)) (λc=>ab ?_) λc=>ax (c:=decide (ln (p.tasks.map cA)<1)) (λd=>ab ?_) λd=>ax (c:=decide (32<ln (p.tasks.map cA))) (λe=>ab ?_) λe=>ax (c:=decide (32<ln (p.bW.map il))) (λf=>ab ?_) λf=>az ?_ ?_))
 ·unfold vJ;rw [a];rfl
 ·unfold vJ;rw [a,b];rfl
 ·unfold vJ;rw [a,b,c];rfl
 ·unfold vJ;rw [a,b,c,d];rfl
 ·unfold vJ;rw [a,b,c,d,e];rfl
 ·unfold vJ;rw [a,b,c,d,e,f];rfl
 ·show decide (0<ln (p.tasks.map cA))=true;rw [c9]at d⊢;simp at d⊢;omega
 ·have h1:1<=p.tasks.length:=by rw [c9]at d;simp at d;omega
  have hh:vJ p=true:=by unfold vJ;rw [a,b,c,d,e,f];rfl
  rw [show gR (gA (gR (jB p) 2) 0) 1=(dH p.tasks 0).aJ.map nM from g0t h1];refine ax (c:=Yq p) (λg=>ab ?_) λg=>ab ?_
  ·rw [hh,g];rfl
  ·rw [hh,g];rfl
def aOT(hp:p.Ok)(h:vJ p=true):bY acr [aG p] (0,[aG p]):=by
 have ho:=aOH hp.bq hp.obj (Oz h).1;simp only [vJ,Bool.not_eq_true,GM,iT,Od,bA,iy,ui]at h;obtain⟨a,b,c,d,e,f⟩:=h;exact bX aIO (ae ho (bm (au (c:=decide (p.gv<4)) (eE) (au (c:=decide (64<p.gv)) (eE) (au (c:=decide (ln (p.tasks.map cA)<1)) (by simp only [ui];exact d) (au (c:=decide (32<ln (p.tasks.map cA))) (by simp only [ui];exact e) (au (c:=decide (32<ln (p.bW.map il))) (by simp only [ui];exact f) aD)))))))
structure MP(p:PG):Prop where
 hd:vJ p=true
 e0:(dH p.tasks 0).aJ =[]
 all:∀t∈p.tasks,mr p t.body
 ref:(∀t∈p.tasks,gY t.body)->NE p->Ev Ue [aG p] (0,[c5])
def avv(hp:p.Ok)(hE:pD):∃b,Ev xA [aG p] (0,[av b])/\(b=true->MP p):=by
 have c6:=aOU hp;cases hh:vJ p with
 |false=>
  rw [hh]at c6;exact⟨false,bj N0 (ae c6 (bm aD)),λh=>aM⟩
 |true=>
  rw [hh]at c6;simp only [wM]at c6;obtain⟨h1,h2,h3,h4,h5⟩:=Oz hh;have ol:=aMd hp.bq h1;cases he:Yq p with
  |true=>
   rw [he]at c6;exact⟨false,bj N0 (ae c6 (bm aD)),λh=>aM⟩
  |false=>
   rw [he]at c6;have mc:=mtC hp;cases ht:p.tasks.any (λt=> !zw t)with
   |true=>
    rw [ht]at mc;have j:bY S9 [aG p] (1,[aT,aG p]):=bX ak0 (ae mc.diag (bh aD));exact⟨false,bj N0 (ae c6 (bh (ae j (bm aD)))),λh=>aM⟩
   |false=>
    rw [ht]at mc;have j:bY S9 [aG p] (0,[aG p]):=bX ak0 (ae mc.diag (bm aD));have hol:1<=p.bq.length:=by
     unfold yi at h1;cases z:decide (ln (cg p.bq)<1)with
     |true=>rw [z]at h1;cases h1
     |false=>rw [c9]at z;simp at z;omega
    obtain⟨x,rc⟩:=aNc hp ol hol;cases hf:GY p with
    |none=>
     rw [hf]at rc;exact⟨false,bj N0 (ae c6 (bh (ae j (bh (ae rc (bh aD)))))),λh=>aM⟩
    |some ro=>
     rw [hf]at rc;obtain⟨i1,i2,i3,i4⟩:=aJc hf;have aPe:∀q∈p.bW,∀x∈q.nu,ib x p.bq.length=true:=λq hq=>by
      refine arJ hp.bq ?_;have:=i3 q hq;rw [<-c9 iX p.bq];exact this
     have ct:CT p p.tasks ro:=⟨⟨rfl,λ_=>rfl⟩,hp,ol,i1,λr hr=>by
      rcases i2 r hr with h|⟨h,_⟩|⟨_,h⟩
      ·exact .inl h
      ·exact .inr (.inl h)
      ·exact .inr (.inr h),h3,h5,λt ht e he=>by
       obtain⟨a,b⟩:=i4 t ht e he;obtain⟨a1,a2⟩:=UI hp.bq a;obtain⟨b1,b2⟩:=UI hp.bq b;exact⟨a2,b2,a1,b1⟩⟩
     obtain⟨b,p1,pr⟩:=aNi hp hE ol aPe;have C1:∀r:UO,_->Ev xA [aG p] r:=λr h=>by
      refine bj N0 (ae c6 (bh (ae j (bh (ae rc (bm ?_))))));exact h
     cases b with
     |false=>
      have k:bY S0 [aG p] (1,[aT,aG p]):=bX akG (ae p1.diag (bh aD));exact⟨false,C1 _ (ae k (bm aD)),λh=>aM⟩
     |true=>
      have k:bY S0 [aG p] (0,[aG p]):=bX akG (ae p1.diag (bm aD));have st0:ST p 8192 (bz []) λ_=>0:=⟨CJ,λt=>Vc,λt=>by simp,by omega,by omega,λt h=>absurd rfl h⟩;obtain⟨b,lf,cn,pk,u1,u3⟩:=aXJ ct hE 8192 (bz []) _ st0;have C2:∀r:UO,_->Ev xA [aG p] r:=λr h=>by
       refine C1 r (ae k (bh (ae u1.diag ?_)));exact h
      cases b with
      |false=>exact⟨false,C2 _ (bh aD),λh=>aM⟩
      |true=>
       obtain⟨⟨c,st,hc⟩,jA,kR⟩:=u3 rfl;have q1:=aZP (ro:=ro) st h4 h5;have C3:∀r:UO,_->Ev xA [aG p] r:=λr h=>by
        refine C2 r (bm ?_);erw [pk];refine ae q1.diag ?_;exact h
       cases ho:agY p.tasks.length c with
       |true=>
        rw [ho]at C3;exact⟨false,C3 _ (bh aD),λh=>aM⟩
       |false=>
        rw [ho]at C3;refine⟨true,C3 _ (bm aD),λ_=>⟨hh,by unfold Yq at he;rw [c9,ui]at he;exact Cr (by omega),jA,λka ne=> ?_⟩⟩;have e0:c=λt=>0+lW p.tasks t:=funext (hc ka);have e1:c=lW p.tasks:=by rw [e0];funext t;simp
        rw [e1]at st ho;have ry:∀t,lW p.tasks t≠0->ib t p.tasks.length=true:=λt ht=>by
         have:=st.mX t ht;exact U1
        have q0:=aQz hp (c0:=λ_=>0) ry λt=>by have:=st.le t;have:=st.lo;omega
        rw [<-e0,e1]at q0;have nw:List.replicate ((ln (p.tasks.map cA)).toNat) ([iI 0]:Row)=ints (cl p.tasks.length λ_=>0):=by
         rw [c9,ow];apply Om
         ·simp [cl]
         ·intro i a b;simp [cl]
        have tl:(decide (0<=ln (p.tasks.map cA))&&decide (ln (p.tasks.map cA)<=ln (p.tasks.map cA))&&decide ((ln (p.tasks.map cA))*8<=140737488355328))=true:=CW;have t0:decide (0<ln (p.tasks.map cA))=true:=CW;have z0:gI (gA (ints (cl p.tasks.length (lW p.tasks))) 0) 0=0:=by
         have bI:0<(cl p.tasks.length (lW p.tasks)).length :=by rw [EL];omega
         rw [Wd bI];have hv:=af5 (c:=lW p.tasks) (u9 (i:=0) (show 0<p.tasks.length by omega));rw [show((0:Nat):Int).toNat =0 from rfl]at hv;rw [hv]
         by_cases hz:lW p.tasks ((0:Nat):Int)=0
         ·rw [hz];rfl
         ·have:=st.mX _ hz;omega
        have tn:decide (0<ln (ints (cl p.tasks.length (lW p.tasks))))=true:=by rw [c9,EL];simp;omega
        have tn':decide (0<(ints (cl p.tasks.length (lW p.tasks))).length)=true:=by rw [dW,EL];simp;omega
        rw [<-nw]at q0;refine bj aJ5 (ae (aOT hp hh) (bh (az t0 ?_)));erw [g0t h4];refine au he (ae (bX aH5 (ae (mtR hp ht).diag (bm aD))) (bh (ae (aNb hp ol ne hf) (bm (ae (bX aHs (ae (pr rfl).diag (bm aD))) (bh (ae (bX aGE (ae (kR ka ne).diag aD)) (au (c:=decide (lf<0)) (Vb) (az tl (ae q0.diag (ae (aZN h4 h5 ho).diag (bm (az tn (az tn' (ab ?_)))))))))))))));show(0,[av (gI (gA (ints (cl p.tasks.length (lW p.tasks))) 0) 0==0)])=_;rw [z0];rfl
end
end
end Go.Proofs.B.C
namespace Go.ah
def jy{p:Prop}(h:p:=by kernel_rfl):p:=h
end Go.ah
namespace Go.ah
def TO:=@List.getElem_take
def amP:=@List.pairwise_singleton
end Go.ah
namespace Go.Proofs.B.C
open Go Go.ah
section
variable{i:Nat}{l:cj}
def alF:∀l:cj,Hb (sX l)=some l
 | []=>rfl
 |x::l=>by
  show(match Hb (sX l)with|some l'=>some (x::l')|none=>none)=_;rw [alF l]
def aOf(N:Nat):FU CX EE (N+24) R7 [aw []]=some (0,[aw []]):=jy
def aN6:EE[R7]?=some R8:=jy
def aJQ(z:Int)(zs:cj):HI R8 [aw (sX (z::zs))]=match Hb (sX (z::zs))with|some l=>a8 (Nat.ble l.length 4611686018427387903) (some (0,[.aj 3 (sX (rM l))]))|none=>none:=jy
def aQq(hl:l.length<=mx):Ev R7 [aw (ints l)] (0,[aw (ints (rM l))]):=by
 cases l with
 |nil=>
  refine⟨24,λN _ h _=> ?_⟩;obtain⟨M,rfl⟩:∃M,N=M+24:=⟨N- 24,by omega⟩;have:rM []=[]:=List.mergeSort_nil;rw [this];exact aOf M
 |cons z zs=>
  refine as4 (g:=λ_=>some (0,[aw (ints (rM (z::zs)))])) (λN=> ?_) aD;unfold bG;rw [aN6];show(match HI R8 [aw (sX (z::zs))]with|some o=>some o|none=>_)=_;rw [aJQ,alF];show(match a8 (Nat.ble (z::zs).length 4611686018427387903) (some (0,[AV.aj 3 (sX (rM (z::zs)))]))with|some o=>some o|none=>_)=_;rw [show Nat.ble (z::zs).length 4611686018427387903=true from Nat.ble_eq_true_of_le (aeF)];rfl
def al4(l:cj):(rM l).Perm l:=List.mergeSort_perm l _
def aHR(l:cj):(rM l).Pairwise (·<= ·):=by
 have:=List.pairwise_mergeSort (le:=λx y:Int=>decide (x<=y)) (λa b c h1 h2=>by simp at*;omega) (λa b=>eE) l;exact this.imp λh=>mU
def toNl{o:Int}{n:Nat}(h:ib o n=true):decide (o.toNat<n)=true:=by have:=mR.1 h;simp;omega
def gi(h:i<l.length):gI (gA (ints l) i) 0=l[i]:=by
 rw [Wd h,pA,c8 h];rfl
def aOp(h:i<l.length)(v:Int):(ints l).set i (setAt (gA (ints l) i) 0 [iI v])=ints (l.set i v):=by
 rw [wR h];show(l.map _).set i [iI v]=(l.set i v).map _;rw [Ol]
def Cpt(l r:cj):Prop:=r.Nodup/\∀x,x∈r ↔ x∈l
def ann{r:cj}(h:r.Pairwise (·< ·)):r.Nodup:=h.imp λh e=>by omega
def aZR(hl:l.length<=mx)(hs:l.Pairwise (·<= ·)){k:Nat}(hk:k<l.length):∀(m k2:Nat),k+k2+m=l.length->1<=k2->∀(X R:cj),X.length=l.length->(∀j,k+k2- 1<=j->j<l.length->X[j]?=l[j]?)->X.take R.length=R->R.length<=k+k2- 1->R.Pairwise (·< ·)->(∀x,x∈R ↔ x∈l.take (k+k2))->∃X' R':cj,X'.length=l.length/\X'.take R'.length=R'/\R'.length<=l.length/\Cpt l R'/\
 bS I2 [iI (R.length:Int),.vw 0 k (l.length- k),iI (k2:Int),aw (ints X)] (0,[iI (R'.length:Int),aw (ints X')]):=by
 intro m;simp only [mx]at hl
 induction m with
 |zero=>
  intro k2 hm h1 X R hX hj hR hRl Yg Q7;refine⟨X,R,hX,hR,by omega,⟨ann Yg,λx=>by rw [Q7,El (by omega)]⟩,?_⟩;refine aY ais (au ?_ aD);exact eE
 |succ m ih=>
  intro k2 hm h1 X R hX hj hR hRl Yg Q7;have QH:aU ((k2:Int)- 1)=((k2- 1:Nat):Int):=zb;have DV:k+k2<X.length:=by omega
  have wA:k+(k2- 1)<X.length:=by omega
  have bI:k+k2<l.length:=by omega
  have wv:X[k+k2]=l[k+k2]:=by
   have:=hj (k+k2) (by omega) bI;rw [c8 DV,c8 bI]at this;injection this
  have DL:X[k+(k2- 1)]=l[k+(k2- 1)]:=by
   have:=hj (k+(k2- 1)) (by omega) (by omega);rw [c8 wA,c8 (by omega)]at this;injection this
  have hle:l[k+(k2- 1)]<=l[k+k2]:=J2.1 hs _ _ (by omega) bI (by omega);have F4:l.take (k+k2+1)=l.take (k+k2)++[l[k+k2]]:=by rw [GR,c8 bI];rfl
  have kM:l[k+(k2- 1)]∈l.take (k+k2):=by
   have:l[k+(k2- 1)]=(l.take (k+k2))[k+(k2- 1)]'(aem):=by rw [TO]
   rw [this];exact cY _
  have X1:∀x∈R,x<=l[k+(k2- 1)]:=λx hx=>by
   have hx:=(Q7 x).1 hx;obtain⟨i,hi,rfl⟩:=yV hx;rw [sU]at hi;rw [TO]
   by_cases he:i=k+(k2- 1)
   ·subst he;exact vR _
   ·exact J2.1 hs _ _ (by omega) (by omega) (by omega)
  have t0:decide ((k2:Int)<((l.length- k:Nat):Int))=true:=eE;have t1:(decide (0<=(k2:Int))&&decide ((k2:Int)<((l.length- k:Nat):Int)))=true:=eE;have t2:decide (k+((k2:Int)).toNat <(ints X).length)=true:=by rw [ow,dW];simpa using DV
  have t3:(decide (0<=((k2- 1:Nat):Int))&&decide (((k2- 1:Nat):Int)<((l.length- k:Nat):Int)))=true:=eE;have t4:decide (k+(((k2- 1:Nat):Int)).toNat <(ints X).length)=true:=by rw [ow,dW];simpa using wA
  have hnx:aU ((k2:Int)+1)=((k2+1:Nat):Int):=zb;have C:∀r:UO,_->bS I2 [iI (R.length:Int),.vw 0 k (l.length- k),iI (k2:Int),aw (ints X)] r:=λr h=>by
   refine aY ais ?_;rw [QH];refine aV t0 (az t1 (az t2 (az t3 (az t4 ?_))));rw [ow,ow,gi DV,gi wA,wv,DL,hnx];exact h
  by_cases he:l[k+k2]=l[k+(k2- 1)]
  ·obtain⟨X',R',q1,q2,q3,q4,q5⟩:=ih (k2+1) (by omega) (by omega) X R hX (λj h1 h2=>hj j (by omega) h2) hR (by omega) Yg λx=>by
    rw [<-tF,F4,nA,Q7];constructor
    ·exact λh=> .inl h
    ·rintro(h|h)
     ·exact h
     ·simp at h;subst h;rw [he];exact kM
   exact⟨X',R',q1,q2,q3,q4,C _ (au (CK) q5)⟩
  ·have Yh:R.length<X.length:=by omega
   have aO5:(X.set R.length l[k+k2]).take (R.length+1)=R++[l[k+k2]]:=by
    rw [GR,oV Yh];rw [List.take_set_of_le (gQ _),hR];rfl
   obtain⟨X',R',q1,q2,q3,q4,q5⟩:=ih (k2+1) (by omega) (by omega) (X.set R.length l[k+k2]) (R++[l[k+k2]]) (by simp [hX]) (λj h1 h2=>by
    rw [mw (by omega)];exact hj j (by omega) h2) (by rw [fI];exact aO5) (eE)
    (by
      rw [List.pairwise_append];refine⟨Yg,amP _ _,λa ha b hb=> ?_⟩;simp at hb;subst hb;have:=X1 a ha;omega) λx=>by
    rw [<-tF,F4,nA,nA,Q7]
   have ahc:=aOp (l:=X) Yh l[k+k2];refine⟨X',R',q1,q2,q3,q4,C _ (aV (CK) (az t1 (az t2 (az (c:=ib (R.length:Int) (ints X).length) (by rw [dW];exact u9 Yh) (az (by rw [ow,dW];simpa using Yh) ?_)))))⟩;have AH:aU ((R.length:Int)+1)=((R.length+1:Nat):Int):=zb;rw [ow,ahc,AH];rw [fI]at q5;exact q5
def aZQ(hl:l.length<=mx)(hs:l.Pairwise (·<= ·)):∀(m k:Nat),k+m=l.length->1<=k->(l.take k).Pairwise (·< ·)->∃r:cj,Cpt l r/\∃q,bS MB [iI (k:Int),aw (ints l)] (q,[aw (ints r)]):=by
 intro m;have IE:=hl;simp only [mx]at hl
 induction m with
 |zero=>
  intro k hk h1 hp;rw [El (by omega)]at hp;exact⟨l,⟨ann hp,λx=>Iff.rfl⟩,1,aY aiz (au (CW) aD)⟩
 |succ m ih=>
  intro k hk h1 hp;have uS:k<l.length:=by omega
  have X8:k- 1<l.length:=by omega
  have QH:aU ((k:Int)- 1)=((k- 1:Nat):Int):=zb;have tp:ib (k:Int) (ints l).length =true:=by rw [dW];exact u9 uS
  have avT:ib ((k- 1:Nat):Int) (ints l).length =true:=by rw [dW];exact u9 X8
  have hle:l[k- 1]<=l[k]:=J2.1 hs _ _ X8 uS (by omega);have zJ:ln (ints l)=(l.length:Int):=by rw [c9]
  have t0:decide ((k:Int)<(l.length:Int))=true:=eE;have C:∀r:UO,_->bS MB [iI (k:Int),aw (ints l)] r:=λr h=>by
   refine aY aiz ?_;rw [QH,zJ];refine aV t0 (az tp (az (toNl tp) (az avT (az (toNl avT) ?_))));rw [ow,ow,gi uS,gi X8];exact h
  by_cases he:l[k]=l[k- 1]
  ·have hR:(l.take k).length =k:=by rw [sU];omega
   obtain⟨X',R',q1,q2,q3,q4,q5⟩:=aZR IE hs uS (m) 1 (by omega) (by omega) l (l.take k) rfl (λj _ _=>rfl) (by rw [hR]) (by rw [hR];omega) hp λx=>by
    rw [GR,c8 uS,nA];constructor
    ·exact λh=> .inl h
    ·rintro(h|h)
     ·exact h
     ·simp at h;subst h;rw [he];have:l[k- 1]=(l.take k)[k- 1]'(aem):=by rw [TO]
      rw [this];exact cY _
   rw [hR]at q5;refine⟨R',q4,0,C _ (aV (CK) (az (eE) ?_))⟩;rw [show(ints l).length - k=l.length- k by rw [dW]];refine ae q5.diag ?_;have hc:uW [iI 0] (ints X') R'.length ((ints X').length - R'.length)=ints R'++List.replicate ((ints X').length - R'.length) [iI 0]:=by
    unfold uW uH;rw [show(ints X').take R'.length=ints R' by
     show(X'.map _).take _=_;rw [<-adf,q2]]
    rw [amT (by rw [GU,dW,q1];omega),yW]
   have iJ:(uW [iI 0] (ints X') R'.length ((ints X').length - R'.length)).length =l.length:=by
    rw [hc,fI,GU,dW,dW,q1];omega
   have l1:ln (ints X')=(l.length:Int):=by rw [c9,q1]
   have l2:ln (uW [iI 0] (ints X') R'.length ((ints X').length - R'.length))=(l.length:Int):=by show((_:Nat):Int)=_;rw [iJ]
   show E (λN _=>a8 (decide (0<=(R'.length:Int))&&decide ((R'.length:Int)<=ln (ints X'))&&decide (ln (ints X')<=ln (ints X')))<|a8 (decide (0<=(R'.length:Int))&&decide ((R'.length:Int)<=ln (uW ([iI 0]) (ints X') (((R'.length:Int)).toNat) (((ints X').length)-(((R'.length:Int)).toNat))))&&decide (ln (uW ([iI 0]) (ints X') (((R'.length:Int)).toNat) (((ints X').length)-(((R'.length:Int)).toNat)))<=ln (uW ([iI 0]) (ints X') (((R'.length:Int)).toNat) (((ints X').length)-(((R'.length:Int)).toNat)))))<|some (0,[aw ((uW ([iI 0]) (ints X') (((R'.length:Int)).toNat) (((ints X').length)-(((R'.length:Int)).toNat))).take (((R'.length:Int)).toNat))])) _;rw [ow,l1,l2];refine az (eE) (az (eE) (ab ?_));rw [hc,acV (by simp),El (by simp)]
  ·have ue:(l.take (k+1)).Pairwise (·< ·):=by
    rw [GR,c8 uS];show(l.take k++[l[k]]).Pairwise _;rw [List.pairwise_append];refine⟨hp,amP _ _,λa ha b hb=> ?_⟩;simp at hb;subst hb;obtain⟨i,hi,rfl⟩:=yV ha;rw [sU]at hi;rw [TO];have:l[i]<=l[k- 1]:=by
     by_cases h:i=k- 1
     ·subst h;exact vR _
     ·exact J2.1 hs _ _ (by omega) X8 (by omega)
    omega
   obtain⟨r,r1,q,r2⟩:=ih (k+1) (by omega) (by omega) ue;refine⟨r,r1,q,C _ (au (CK) ?_)⟩;rw [mi (by omega) (by omega)];exact r2
def aZM(hl:l.length<=mx)(hs:l.Pairwise (·<= ·)):∃r:cj,Cpt l r/\Ev Zm [aw (ints l)] (0,[aw (ints r)]):=by
 by_cases h2:l.length<2
 ·refine⟨l,⟨?_,λx=>Iff.rfl⟩,bj aiM (aV (CW) aD)⟩
  match l,h2 with
  | [],_=>exact yQ
  | [x],_=>simp
  |_::_::_,h=>simp at h;omega
 ·obtain⟨r,r1,q,r2⟩:=aZQ hl hs (l.length- 1) 1 (by omega) (by omega) (by
   match l,h2 with
   |x::xs,_=>simp
   | [],h=>simp at h)
  exact⟨r,r1,bj aiM (au (CW) (ae r2.diag (ax (λ_=>aD) λ_=>aD)))⟩
end
section
variable{i:Int}{x:SO}
abbrev zE(p:Bool)(k:Nat):AV:= aa [av p,aT,.ak k,iI 0,iI 0]
abbrev vz(a b:SO):AV:= gW [bJ a,bJ b]
abbrev uM(l:cj):AV:= aw (ints l)
variable {a b:SO}
def eiJ:bY abm [aa (bJ a),aa (bJ b),zE false 3,uM []]
 (bif !a.ptr&& !b.ptr then(1,[c5,aa (bJ a),aa (bJ b),aa [aT,aT,.ak 3,iI (rS a.lo b.lo),iI (imax a.hi b.hi)],uM []])else(0,[aa (bJ a),aa (bJ b),zE false 3,uM []])):=by
 refine bX aFC ?_;cases ha:a.ptr with
 |true=>exact au (by show(!a.ptr)=false;rw [ha];rfl) aD
 |false=>
  refine aV (by show(!a.ptr)=true;rw [ha];rfl) ?_;cases hb:b.ptr with
  |true=>exact au (by show(!b.ptr)=false;rw [hb];rfl) aD
  |false=>exact aV (by show(!b.ptr)=true;rw [hb];rfl) aD
def aPE(acc:cj):bS zR [iI 2,iI 2,zE false 3,zE true 4,vz a b,uM [],uM acc] (1,[zE false 3,zE true 4,vz a b,uM [],uM acc]):=
 aY aan (bm aD)
def asW(hi:0<=i)(h2:i<2)(hx:gA [bJ a,bJ b] i.toNat=bJ x)(hp:x.ptr=false)(hn:x.null=false)(acc:cj):
 bS zR [iI 2,iI i,zE false 3,zE true 4,vz a b,uM [],uM acc] (0,[aT,aa [aT,aT,.ak 3,iI 0,iI 0],zE true 4,vz a b,uM [],uM acc]):=by
 have tp:ib i [bJ a,bJ b].length =true:=mR.2 ⟨hi,uu⟩;refine aY aan (aV (uu) (az tp (az (toNl tp) ?_)));rw [hx];exact aV (by show(!x.ptr)=true;rw [hp];rfl) (aV (by show(!x.null)=true;rw [hn];rfl) aD)
def afb{j:Int}(hi:0<=i)(h2:i<2)(hj:aU (i+1)=j)(hx:gA [bJ a,bJ b] i.toNat=bJ x)(hp:(x.ptr||x.null)=true){acc:cj}(hl:acc.length+x.set.length<=mx){r:UO}
 (h:bS zR [iI 2,iI j,zE false 3,zE true 4,vz a b,uM [],uM (acc++bif x.ptr then x.set else [])] r):
 bS zR [iI 2,iI i,zE false 3,zE true 4,vz a b,uM [],uM acc] r:=by
 have tp:ib i [bJ a,bJ b].length =true:=mR.2 ⟨hi,uu⟩;refine aY aan (aV (uu) (az tp (az (toNl tp) ?_)));rw [hx,hj];have hs:ints acc++gR (bJ x) 2=ints (acc++x.set):=(sR).symm;cases hq:x.ptr with
 |true=>
  rw [hq]at h;refine au (by show(!x.ptr)=false;rw [hq];rfl) (aV hq (az ?_ ?_))
  ·show decide (((ints acc).length +(ints x.set).length)*8<=_)=true;rw [dW,dW];simp only [mx]at hl;simp;omega
  ·rw [hs];exact h
 |false=>
  rw [hq]at h hp;refine aV (by show(!x.ptr)=true;rw [hq];rfl) (au (by show(!x.null)=false;simp at hp;rw [hp];rfl) (au hq ?_));rw [show acc++(bif false then x.set else [])=acc from yW _]at h;exact h
def af2:pD:=by
 intro n hn a b ha hb;have la:=ha.len;have lb:=hb.len;have m4:(4096:Nat)<=mx:=G9;have C:∀r:UO,_->Ev NA [aa (bJ a),aa (bJ b)] r:=λr h=>bj aHA (ae (eiJ (a:=a) (b:=b)) h);cases hz:(!a.ptr&& !b.ptr)with
 |true=>
  rw [hz]at C;have h1:a.ptr=false:=by simp at hz;exact hz.1
  have h2:b.ptr=false:=by simp at hz;exact hz.2
  have he:tT a b=true:=by unfold tT;rw [hz];rfl
  refine⟨⟨false,false,[],rS a.lo b.lo,imax a.hi b.hi⟩,C _ (bm (ab ?_)),λ_=>⟨Ox rfl,?_⟩⟩
  ·exact Bc
  ·exact⟨Kq,rfl,Kq,Kq,λx=>by simp [h1,h2]⟩
 |false=>
  rw [hz]at C;have he:tT a b=((a.ptr||a.null)&&(b.ptr||b.null)):=by unfold tT;rw [hz];rfl
  have hpp:(a.ptr||b.ptr)=true:=by cases h:a.ptr<;>cases h':b.ptr<;>simp_all
  have C2:∀(o r:UO),bS zR [iI 2,iI 0,zE false 3,zE true 4,vz a b,uM [],uM []] o->_->Ev NA [aa (bJ a),aa (bJ b)] r:=λo r h h'=>C r (bh (ae h.diag h'));cases hA:(a.ptr||a.null)with
  |false=>
   have h1:a.ptr=false:=by simp at hA;exact hA.1
   have h2:a.null=false:=by simp at hA;exact hA.2
   refine⟨uI,C2 _ _ (asW (i:=0) (by omega) (by omega) rfl h1 h2 []) (bh (ab ?_)),λh=> ?_⟩
   ·rw [he,hA];rfl
   ·rw [he,hA]at h;cases h
  |true=>
   have ju:(bif a.ptr then a.set else []).length <=n:=by cases a.ptr<;>simp;omega
   cases hB:(b.ptr||b.null)with
   |false=>
    have h1:b.ptr=false:=by simp at hB;exact hB.1
    have h2:b.null=false:=by simp at hB;exact hB.2
    refine⟨uI,C2 _ _ (afb (i:=0) (j:=1) (by omega) (by omega) rfl rfl hA (eE) (asW (i:=1) (by omega) (by omega) rfl h1 h2 _)) (bh (ab ?_)),λh=> ?_⟩
    ·rw [he,hA,hB];rfl
    ·rw [he,hA,hB]at h;cases h
   |true=>
    obtain⟨X,hX⟩:∃X,X=([]++(bif a.ptr then a.set else []))++(bif b.ptr then b.set else []):=⟨_,rfl⟩;have LX:(bif b.ptr then b.set else []).length <=n:=by cases b.ptr<;>simp;omega
    have lX:X.length<=mx:=by rw [hX];simp only [rF,fI];omega
    have lp:=afb (a:=a) (b:=b) (i:=0) (j:=1) (by omega) (by omega) rfl rfl hA (acc:=[]) (eE) (afb (i:=1) (j:=2) (by omega) (by omega) rfl rfl hB (by simp only [rF];omega) (aPE _));rw [<-hX]at lp;obtain⟨r,r1,r2⟩:=aZM (l:=rM X) (by rw [(al4 X).length_eq];exact lX) (aHR X);have hm:∀x,x∈r ↔ (a.ptr=true/\x∈a.set)∨(b.ptr=true/\x∈b.set):=λx=>by
     rw [r1.2,(al4 X).mem_iff,hX];cases a.ptr<;>cases b.ptr<;>simp
    have hE:Dy a b ⟨true,false,r,0,0⟩:=⟨hpp.symm,rfl,by rw [hpp];rfl,by rw [hpp];rfl,hm⟩;refine⟨⟨true,false,r,0,0⟩,C2 _ _ lp (bm (ae (aQq lX) (ae r2 (ab ?_)))),λ_=>⟨⟨r1.1,hE.mX ha hb⟩,hE⟩⟩;rw [he,hA,hB];rfl
end
section
variable{s:CS}{p:PG}
mutual
def jm:CS->List CS
 | .mk f l d h a=> .mk f l d h a::(Hn d++(yb l++(Hm h++Ho a)))
def yb:List CS->List CS
 | []=>[]
 |s::ss=>jm s++yb ss
def Hn:List CD->List CS
 | []=>[]
 |s::ss=>PU s++Hn ss
def PU:CD->List CS
 | .mk d u=>jm d++jm u
def Hm:List CH->List CS
 | []=>[]
 |s::ss=>PS s++Hm ss
def PS:CH->List CS
 | .mk _ b=>jm b
def Ho:List CA->List CS
 | []=>[]
 |s::ss=>PV s++Ho ss
def PV:CA->List CS
 | .mk _ _ _ _ b a=>jm b++jm a
end
def aLY(s:CS):jm s=s::(Hn s.D++(yb s.L++(Hm s.H++Ho s.A))):=Bd
def aL0(s:CD):PU s=jm s.d++jm s.u:=Bd
def aLZ(s:CH):PS s=jm s.body:=Bd
def aL1(s:CA):PV s=jm s.body++jm s.after:=Bd
def aJi{l:List CS}{i:Nat}(h:i<l.length):yb (l.drop i)=jm l[i]++yb (l.drop (i+1)):=by rw [jj h];rfl
def dx:List TK->List CS
 | []=>[]
 |x::xs=>jm x.body++dx xs
def mr.one(h:mr p s):Fact p s:=by cases h with|mk _ h _=>exact h
def mr.jt{y:CS}(h:mr p s)(hy:y∈s.kids):mr p y:=by cases h with|mk _ _ h=>exact h y hy
def mr.sh{p:PG}:∀s:CS,mr p s->s.Sh p.bq.length p.bW.length:=by
 refine CS.ind λs ih h=> ?_;exact .mk s h.one.sh λy hy=>ih y hy (h.jt hy)
end
end Go.Proofs.B.C
namespace Go.ah
def adC:=@List.flatMap_append
def amQ:=@List.getElem_cons_succ
end Go.ah
namespace Go.Proofs.B.C
open Go Go.ah
section
variable{x y:NB}
def adw{α β:Type}{f g:α->List β}:∀{l:List α},(∀x∈l,f x=g x)->l.flatMap f=l.flatMap g
 | [],_=>rfl
 |x::l,h=>by
  rw [lz,lz,h x (ji ..),adw λy hy=>h y (jV _ hy)]
def aKL(m:Nat):∀x:NB,bw x.1<=m->pre m x=iY x:=by
 induction m using Nat.strongRecOn with
 |ind m ih=>
  intro x h;have h1:=vU x.1;obtain⟨k,hk⟩:∃k,bw x.1=k+1:=⟨bw x.1- 1,by omega⟩;obtain⟨j,rfl⟩:∃j,m=j+1:=⟨m- 1,by omega⟩;unfold iY;rw [hk];show x::(cN x).flatMap (pre j)=x::(cN x).flatMap (pre k);rw [adw λy hy=> ?_];have:=(TH hy).2.2.2;rw [ih j (by omega) y (by omega),ih k (by omega) y (by omega)]
def xY(x:NB):iY x=x::(cN x).flatMap iY:=by
 have h1:=vU x.1;obtain⟨k,hk⟩:∃k,bw x.1=k+1:=⟨bw x.1- 1,by omega⟩;show pre (bw x.1) x=_;rw [hk];show x::(cN x).flatMap (pre k)=_;rw [adw λy hy=>aKL k y (by have:=(TH hy).2.2.2;omega)]
def qw:Nat->List CS->List NB
 |_,[]=>[]
 |n,s::ss=>(s,n)::qw (n+1) ss
def anh:∀(a b:List CS) (n:Nat),qw n (a++b)=qw n a++qw (n+a.length) b
 | [],b,n=>rfl
 |x::a,b,n=>by
  show(x,n)::qw (n+1) (a++b)=(x,n)::(qw (n+1) a++qw (n+(a.length+1)) b);rw [anh a b (n+1),show n+1+a.length=n+(a.length+1)by omega]
def T8:∀{l:List CS} {n:Nat} {x:NB},x∈qw n l ↔∃h:n<=x.2/\x.2- n<l.length,l[x.2- n]'h.2=x.1
 | [],n,x=>by simp [qw]
 |s::l,n,x=>by
  show x∈(s,n)::qw (n+1) l ↔ _;rw [iz,T8 (l:=l)];constructor
  ·rintro(rfl|⟨⟨h1,h2⟩,h3⟩)
   ·exact⟨⟨gQ _,by simp⟩,by simp⟩
   ·refine⟨⟨by omega,by rw [mh];omega⟩,?_⟩;have:x.2- n=(x.2-(n+1))+1:=by omega
    simp only [this,amQ];exact h3
  ·rintro⟨⟨h1,h2⟩,h3⟩
   by_cases h:x.2=n
   ·refine .inl ?_;have:x.2- n=0:=by omega
    simp only [this,List.getElem_cons_zero]at h3;exact Prod.ext h3.symm h
   ·refine .inr ⟨⟨by omega,by rw [mh]at h2;omega⟩,?_⟩;have:x.2- n=(x.2-(n+1))+1:=by omega
    simp only [this,amQ]at h3;exact h3
def ang{l:List CS}{n:Nat}(hx:x∈qw n l)(hy:y∈qw n l)(h:x.2=y.2):x=y:=by
 obtain⟨⟨_,_⟩,h1⟩:=T8.1 hx;obtain⟨⟨_,_⟩,h2⟩:=T8.1 hy;refine Prod.ext ?_ h;rw [<-h1,<-h2];simp only [h]
def adp:∀l:List CS,yb l=l.flatMap jm
 | []=>rfl
 |x::l=>by rw [lz,<-adp l];rfl
def ane:∀l:List CD,Hn l=(l.flatMap λd=>[d.d,d.u]).flatMap jm
 | []=>rfl
 |x::l=>by
  show PU x++Hn l=_;rw [ane l,aL0];simp
def anc:∀l:List CH,Hm l=(l.map CH.body).flatMap jm
 | []=>rfl
 |x::l=>by
  show PS x++Hm l=_;rw [anc l,aLZ];simp
def anf:∀l:List CA,Ho l=(l.flatMap λa=>[a.body,a.after]).flatMap jm
 | []=>rfl
 |x::l=>by
  show PV x++Ho l=_;rw [anf l,aL1];simp
def acv(s:CS):jm s=s::s.kids.flatMap jm:=by
 rw [aLY,ane,adp,anc,anf];simp only [CS.kids,adC]
def Kn:∀s:CS,(jm s).length =bw s:=by
 refine CS.ind λs ih=> ?_;have:∀l:List CS,(∀y∈l,(jm y).length =bw y)->(l.flatMap jm).length =fG l:=λl=>by
  induction l with
  |nil=>intro _;rfl
  |cons x l XY=>
   intro h;rw [lz,fI,h x (ji ..),XY λy hy=>h y (jV _ hy)];rfl
 rw [acv,mh,this _ ih,En];omega
def adR:∀(l:List CS) (n:Nat),(∀y∈l,∀k,iY (y,k)=qw k (jm y))->(eN n l).flatMap iY=qw n (l.flatMap jm)
 | [],_,_=>rfl
 |x::l,n,h=>by
  rw [show eN n (x::l)=(x,n)::eN (n+bw x) l from rfl,lz,lz,anh,h x (ji ..),Kn,adR l _ λy hy=>h y (jV _ hy)]
def acK:∀(s:CS) (n:Nat),iY (s,n)=qw n (jm s):=by
 refine CS.ind λs ih n=> ?_;rw [xY,acv];show(s,n)::(eN (n+1) s.kids).flatMap iY=(s,n)::qw (n+1) (s.kids.flatMap jm);rw [adR _ _ ih]
def aMz(l:List CS)(n:Nat):(eN n l).flatMap iY=qw n (l.flatMap jm):=adR l n λy _ k=>acK y k
def VF{z:NB}(hy:y∈cN x)(hz:z∈iY y):z∈iY x:=by
 rw [xY];exact jV _ (ov.2 ⟨y,hy,hz⟩)
def aLQ(x:NB):x∈iY x:=by rw [xY];exact ji ..
def afo(q:Bool):∀(s:CS) (n:Nat),jq q s=true->∀x∈iY (s,n),zk q x.1.f=true:=by
 refine CS.ind λs ih n h x hx=> ?_;rw [aoC,bA,mP]at h;rw [xY]at hx;rcases iz.1 hx with rfl|hx
 ·exact h.1
 ·obtain⟨y,hy,hx⟩:=ov.1 hx;have hk:y.1∈s.kids:=A5 hy;exact ih y.1 hk y.2 (h.2 _ hk) x hx
end
section
variable{q:Bool}{f:gp}{y:NB}
def KK(x:NB):Prop:=x.1.f.kind=15∨x.1.f.kind=20
def aQs(h:zk true f=true):¬(f.kind=15∨f.kind=20):=by
 rintro(k|k)<;>(unfold zk at h;rw [k]at h;cases h)
def aOm(h:zk q f=true):f.kind≠15:=by
 intro k;unfold zk at h;rw [k]at h;cases h
def aQt(h:zk q f=true)(hk:f.kind<=22):NK f.kind:=by
 unfold zk at h;have h:It f.kind=false:=by cases e:It f.kind<;>rw [e]at h<;>first|rfl|cases h
 simp only [It,GM,Bool.if_true_left,N8,ui,Ul,iA]at h;unfold NK;omega
def aoo{p:PG}:∀(s:CS) (n:Nat),mr p s->∀x∈iY (s,n),mr p x.1:=by
 refine CS.ind λs ih n h x hx=> ?_;rw [xY]at hx;rcases iz.1 hx with rfl|hx
 ·exact h
 ·obtain⟨y,hy,hx⟩:=ov.1 hx;have hk:y.1∈s.kids:=A5 hy;exact ih y.1 hk y.2 (h.jt hk) x hx
def aon:∀(s:CS) (n:Nat),(∀x∈iY (s,n),NK x.1.f.kind)->gY s:=by
 refine CS.ind λs ih n h=> ?_;refine .mk s (h _ (by rw [xY];exact ji ..)) λy hy=> ?_;have:∀(l:List CS) (n:Nat),y∈l->∃m,(y,m)∈eN n l:=λl=>by
  induction l with
  |nil=>intro _ h;cases h
  |cons z l gN=>
   intro n h;rcases iz.1 h with rfl|h
   ·exact⟨n,ji ..⟩
   ·obtain⟨m,hm⟩:=gN (n+bw z) h;exact⟨m,jV _ hm⟩
 obtain⟨m,hm⟩:=this s.kids (n+1) hy;exact ih y hy m λx hx=>h x (by rw [xY];exact jV _ (ov.2 ⟨_,hm,hx⟩))
def QK(x:NB):Prop:=¬NK x.1.f.kind
def VU{p:PG}(hf:mr p y.1)(h:jq q y.1=true):∀x∈iY y,¬QK x:=λx hx k=>k (aQt (afo q y.1 y.2 h x hx) (aoo y.1 y.2 hf x hx).one.k22)
def aOh(h:jq true y.1=true):∀x∈iY y,¬KK x:=λx hx=>aQs (afo true y.1 y.2 h x hx)
def aMn{Q:NB->Prop}(hQ:∀x:NB,x.1.f.kind=9∨x.1.f.kind=3∨x.1.f.kind=1->¬Q x){p:PG}(h:mr p y.1)(k:y.1.f.kind=1):∀x∈iY y,¬Q x:=by
 intro x hx;have f:=h.one;obtain⟨a,b⟩:=f.kd (by omega);have hk:y.1.kids=[]:=by
  unfold CS.kids;rw [a,b,f.ka (by omega),f.k1 k];rfl
 rw [xY]at hx;rcases iz.1 hx with rfl|hx
 ·exact hQ _ (.inr (.inr k))
 ·obtain⟨z,hz,_⟩:=ov.1 hx;have:z.1∈y.1.kids:=A5 hz;rw [hk]at this;cases this
def ae8(q:Bool):∀(m:Nat) (s:sM),(rD q m s).bd =false->s.bd=false
 |0,s,h=>h
 |m+1,s,h=>by
  unfold rD at h;cases h9:s.e.1.f.kind==9 with
  |true=>
   rw [h9,bT]at h;have:=ae8 q m _ h;simp only [N8]at this;exact this.1.1
  |false=>
   rw [h9,bM]at h;cases h3:s.e.1.f.kind==3&&(q&&decide (0<(cN s.e).length))with
   |true=>
    rw [h3,bT]at h;have:=ae8 q m _ h;exact iK
   |false=>rw [h3,bM]at h;exact h
def VI(q:Bool):∀(m:Nat) (s:sM),∀y∈s.st,y∈(rD q m s).st
 |0,s,y,h=>h
 |m+1,s,y,h=>by
  unfold rD;cases h9:s.e.1.f.kind==9 with
  |true=>rw [bT];exact VI q m _ y (Co _ h)
  |false=>
   rw [bM];cases h3:s.e.1.f.kind==3&&(q&&decide (0<(cN s.e).length))with
   |true=>rw [bT];exact VI q m _ y (Co _ h)
   |false=>exact h
def amr:∀(l:List CS) (n i:Nat),i<l.length->((eN n l).getD i Ik).1 =l.getD i Ik.1
 | [],_,_,h=>jY
 |x::l,n,0,_=>rfl
 |x::l,n,i+1,h=>amr l (n+bw x) i (mU)
def asZ:∀(D:List CD) (r:List CS) (j:Nat) (h:j<D.length),((D.flatMap λd=>[d.d,d.u])++r).getD (2*j) Ik.1=D[j].d
 |d::D,r,0,_=>rfl
 |d::D,r,j+1,h=>by
  have:=asZ D r j (mU);rw [show 2*(j+1)=2*j+1+1 by omega];exact iK
def afc(D:List CD):(D.flatMap λd=>[d.d,d.u]).length =2*D.length:=by
 induction D with
 |nil=>rfl
 |cons d D ih=>rw [lz,fI,ih,mh];simp;omega
def aMp{l:List NB}(h:y∈l):y∈l.take (l.length- 1)∨y=fT l (l.length- 1):=by
 obtain⟨i,hi,rfl⟩:=yV h
 by_cases h2:i<l.length- 1
 ·exact .inl (List.mem_take_iff_getElem.2 ⟨i,by omega,rfl⟩)
 ·have:i=l.length- 1:=by omega
  subst this;refine .inr ?_;unfold fT;simp [List.getD,hi]
section
variable {p:PG}
def OA{q r:Bool}{Q:NB->Prop}(hQ:∀x:NB,x.1.f.kind=9∨x.1.f.kind=3∨x.1.f.kind=1->¬Q x)(hS:∀y:NB,mr p y.1->jq r y.1=true->∀x∈iY y,¬Q x):∀(m:Nat) (s:sM),mr p s.e.1->(rD q m s).bd =false->(∀y∈(rD q m s).st,jq r y.1=true)->
 mr p (rD q m s).e.1 /\(∀x∈iY (rD q m s).e,x∈iY s.e)/\∀x∈iY s.e,Q x->x∈iY (rD q m s).e
 |0,s,h,_,_=>⟨h,λ_ h=>h,λ_ h _=>h⟩
 |m+1,s,h,hb,hs=>by
  unfold rD at hb hs⊢;cases h9:s.e.1.f.kind==9 with
  |true=>
   rw [h9,bT]at hb hs;rw [bT];have k9:s.e.1.f.kind=9:=eq_of_beq h9;have qf:=ae8 q m _ hb;simp only [N8,ui,Nat.not_lt,Nat.le_zero,ac5]at qf;obtain⟨⟨_,hH⟩,hu⟩:=qf;have hA:s.e.1.A=[]:=h.one.ka (by omega);have hL1:=h.one.sh.sc k9;obtain⟨l0,sG⟩:∃l0,s.e.1.L=[l0]:=ac0.1 hL1;have KW:s.e.1.kids=(s.e.1.D.flatMap λd=>[d.d,d.u])++[l0]:=by
    unfold CS.kids;rw [hH,hA,sG];rfl
   have eT:cN s.e=eN (s.e.2+1) (s.e.1.D.flatMap λd=>[d.d,d.u])++[(l0,s.e.2+1+fG (s.e.1.D.flatMap λd=>[d.d,d.u]))]:=by
    unfold cN;rw [KW,T7];rfl
   have bI:=J0 hL1;have tt:fT (cN s.e) (2*s.e.1.D.length)=(l0,s.e.2+1+fG (s.e.1.D.flatMap λd=>[d.d,d.u])):=by
    unfold fT;rw [eT,pA,nT (by rw [Ka,afc];exact gQ _),Ka,afc,J3];rfl
   have sa:=A6 bI;have B0:(fT (cN s.e) (2*s.e.1.D.length)).1 ∈s.e.1.kids:=A5 sa;obtain⟨i1,i2,i3⟩:=OA hQ hS m _ (h.jt B0) hb hs;refine⟨i1,λx hx=>VF sa (i2 x hx),λx hx hk=>i3 x ?_ hk⟩;show x∈iY (fT (cN s.e) (2*s.e.1.D.length));rw [xY]at hx;rcases iz.1 hx with rfl|hx
   ·exact absurd hk (hQ _ (.inl k9))
   ·obtain⟨y,hy,hx⟩:=ov.1 hx;have XZ:y.1∈s.e.1.kids:=A5 hy;rw [eT]at hy;rcases nA.1 hy with hy|hy
    ·exfalso;have:=A5 hy;obtain⟨d,hd,Iw⟩:=ov.1 this;rcases iz.1 Iw with Iw|Iw
     ·obtain⟨j,hj,rfl⟩:=yV hd;have kM:fT (cN s.e) (2*j)∈zq (cN s.e) 0 s.e.1.D.length:=wL.2 ⟨j,eE,rfl⟩;have DO:=hs _ (VI q m _ _ (sQ _ kM));have hv:(fT (cN s.e) (2*j)).1 =s.e.1.D[j].d :=by
       unfold fT cN;rw [amr _ _ _ (by rw [KW,fI,afc];omega),KW,asZ _ _ _ hj]
      rw [hv,<-Iw]at DO;exact hS _ (h.jt XZ) DO x hx hk
     ·have Iw:=sP.1 Iw;have:=zY.1 hu d hd;have k1:y.1.f.kind=1:=by rw [Iw];simpa using this
      exact aMn hQ (h.jt XZ) k1 x hx hk
    ·rw [sP.1 hy,<-tt]at hx;exact hx
  |false=>
   rw [h9,bM]at hb hs;rw [bM];cases h3:s.e.1.f.kind==3&&(q&&decide (0<(cN s.e).length))with
   |true=>
    rw [h3,bT]at hb hs;rw [bT];simp only [bA,iT]at h3;have k3:s.e.1.f.kind=3:=eq_of_beq h3.1;have sa:fT (cN s.e) ((cN s.e).length - 1)∈cN s.e:=A6 (by omega);have B0:(fT (cN s.e) ((cN s.e).length - 1)).1 ∈s.e.1.kids:=A5 sa;obtain⟨i1,i2,i3⟩:=OA hQ hS m _ (h.jt B0) hb hs;refine⟨i1,λx hx=>VF sa (i2 x hx),λx hx hk=>i3 x ?_ hk⟩;show x∈iY (fT (cN s.e) ((cN s.e).length - 1));rw [xY]at hx;rcases iz.1 hx with rfl|hx
    ·exact absurd hk (hQ _ (.inr (.inl k3)))
    ·obtain⟨y,hy,hx⟩:=ov.1 hx;rcases aMp hy with hy|rfl
     ·exact absurd hk (hS y (h.jt (A5 (List.mem_of_mem_take hy))) (hs _ (VI q m _ _ (sQ _ hy))) x hx)
     ·exact hx
   |false=>
    rw [bM];exact⟨h,λ_ h=>h,λ_ h _=>h⟩
end
end
end Go.Proofs.B.C
namespace Go.ah
def anJ:=@Decidable.byContradiction
end Go.ah
namespace Go.Proofs.B.C
open Go Go.ah
section
variable{f:FN}{first t:Nat}{p:PG}
def aL8(h:one p t first=(0,f)):uC (f0 p t first)=true/\f.t=t/\f.p=p/\f.dl=fT (uc (f0 p t first)) 0/\f.fJ=(uc (f0 p t first)).drop 1:=by
 unfold one at h;cases h1:uC (f0 p t first)with
 |false=>simp only [h1,bM]at h;injection h with h _;cases h
 |true=>
  simp only [h1,bT]at h;cases h2:Pf (ud (f0 p t first))with
  |false=>simp only [h2,bM]at h;injection h with h _;cases h
  |true=>
   simp only [h2,bT]at h;cases h3:Pj (wc (ud (f0 p t first)))with
   |false=>simp only [h3,bM]at h;injection h with h _;cases h
   |true=>
    simp only [h3,bT]at h;cases h4:B.IV (By (wc (ud (f0 p t first))))with
    |false=>simp only [h4,bM]at h;injection h with h _;cases h
    |true=>
     simp only [h4,bT]at h;cases h5:decide (D2 (By (wc (ud (f0 p t first))))<=(By (wc (ud (f0 p t first)))).period)with
     |false=>simp only [h5,bM]at h;injection h with h _;cases h
     |true=>
      simp only [h5,bT]at h;cases h6:(wk (zO (By (wc (ud (f0 p t first)))))).ok with
      |false=>simp only [h6,bM]at h;injection h with h _;cases h
      |true=>
       simp only [h6,bT]at h;injection h with _ h;subst h;exact⟨rfl,rfl,rfl,rfl,rfl⟩
structure aga(p:PG)(t first:Nat)(f:FN):Prop where
 et:f.t=t
 fp:f.p=p
 dk:f.dl.1.f.kind=15
 dt:f.dl.1.f.sC=true
 dB:f.dl∈iY ((B.dH p.tasks t).body,first)
 F:∃L k,f.fJ.flatMap iY=qw k L
 FB:∀x∈f.fJ.flatMap iY,x∈iY ((B.dH p.tasks t).body,first)
 c15:∀x∈iY ((B.dH p.tasks t).body,first),x.1.f.kind=15->x=f.dl
 c20:∀x∈iY ((B.dH p.tasks t).body,first),x.1.f.kind=20->x∈f.fJ.flatMap iY
 nk:∀x∈iY ((B.dH p.tasks t).body,first),NK x.1.f.kind
 ne:(B.dH p.tasks t).aJ =[]
 j15:∀x∈f.fJ.flatMap iY,x.1.f.kind≠15
def aMl{t:TK}{s:sM}(h:DF t s=true):t.aJ=[]/\s.bd=false/\s.e.1.f.kind=5/\∀y∈s.st,jq true y.1=true:=by
 unfold DF at h;cases a:decide (0<t.aJ.length)<;>rw [a]at h
 ·simp only [bM]at h;cases b:decide (t.prio<1)<;>rw [b]at h
  ·simp only [bM]at h;cases c:s.tk<;>rw [c]at h
   ·simp only [bM]at h;cases d:s.bd<;>rw [d]at h
    ·simp only [bM]at h;cases e:s.e.1.f.kind != 5<;>rw [e]at h
     ·simp only [bM]at h;cases g:(kQ s.e.1.f.E 0).kind != 1<;>rw [g]at h
      ·simp only [bM]at h;cases i:(kQ s.e.1.f.E 0).N != 1<;>rw [i]at h
       ·simp only [bM]at h;exact⟨Cr (by simp only [ui]at a;omega),rfl,by simpa using e,λy hy=>mP.1 h y hy⟩
       ·exact aM
      ·exact aM
     ·exact aM
    ·exact aM
   ·exact aM
  ·exact aM
 ·exact aM
def aMk{l:List NB}(h:FT l=true):0<l.length/\(fT l 0).1.f.kind =15/\(fT l 0).1.f.sC =true/\∀y∈l.drop 1,jq false y.1=true:=by
 unfold FT at h;cases a:l.length==0<;>rw [a]at h
 ·simp only [bM]at h;cases b:(fT l 0).1.f.kind != 15<;>rw [b]at h
  ·simp only [bM]at h;cases c: !(fT l 0).1.f.sC <;>rw [c]at h
   ·simp only [bM]at h;refine⟨by simp at a;exact acL.2 a,by simpa using b,by simpa using c,λy hy=>mP.1 h y hy⟩
   ·exact aM
  ·exact aM
 ·exact aM
def aM3(hf:mr p (B.dH p.tasks t).body)(h:one p t first=(0,f)):aga p t first f:=by
 obtain⟨ok,e1,e2,e3,e4⟩:=aL8 h;unfold uC at ok;simp only [bA]at ok;obtain⟨o1,o2,_⟩:=ok;obtain⟨fv,hb,hk,fK⟩:=aMl o1;obtain⟨hlen,d15,ahu,DO⟩:=aMk o2;have hS:lv (f0 p t first)=rD true (bw (B.dH p.tasks t).body) ⟨((B.dH p.tasks t).body,first),[],false,false⟩:=rfl;rw [hS]at hb hk fK;obtain⟨c1,c2,c3⟩:=OA (Q:=KK) (λx h k=>by rcases k with k|k<;>omega) (λy _ h=>aOh h) (bw (B.dH p.tasks t).body) ⟨((B.dH p.tasks t).body,first),[],false,false⟩ hf hb fK;obtain⟨_,_,c4⟩:=OA (Q:=QK) (λx h k=>k (by unfold NK;omega)) (λy hy h=>VU hy h) (bw (B.dH p.tasks t).body) ⟨((B.dH p.tasks t).body,first),[],false,false⟩ hf hb fK;rw [<-hS]at hk c1 c2 c3 c4;generalize hw:(lv (f0 p t first)).e =w at hk c1 c2 c3 c4;have hlL:uc (f0 p t first)=yx w:=by unfold uc;rw [hw]
 obtain⟨hD,hH⟩:=c1.one.kd (by omega);have hA:=c1.one.ka (by omega);obtain⟨b,hL⟩:∃b,w.1.L=[b]:=ac0.1 (c1.one.sh.wh hk).2;have KW:w.1.kids=[b]:=by unfold CS.kids;rw [hD,hH,hA,hL];rfl
 have eT:cN w=[(b,w.2+1)]:=by unfold cN;rw [KW];rfl
 have Q6:mr p b:=c1.jt (by rw [KW];exact sP.2 rfl);have key:∃k l,yx w=eN k l/\(∀y∈l,mr p y)/\(∀y∈yx w,∀x∈iY y,x∈iY w)/\∀x∈iY w,KK x∨QK x->x∈(yx w).flatMap iY:=by
  have inw:∀x∈iY w,KK x∨QK x->x∈iY (b,w.2+1):=λx hx kx=>by
   rw [xY,eT]at hx;rcases iz.1 hx with rfl|hx
   ·rcases kx with(kx|kx)|kx
    ·omega
    ·omega
    ·exact absurd (show NK x.1.f.kind by unfold NK;omega) kx
   ·rw [lz,Uw,yW]at hx;exact hx
  have sub:∀x∈iY (b,w.2+1),x∈iY w:=λx hx=>VF (by rw [eT];exact sP.2 rfl) hx;have e0:fT (cN w) 0=(b,w.2+1):=by rw [eT];rfl
  cases k3:b.f.kind==3 with
  |true=>
   have eB:yx w=cN (b,w.2+1):=by unfold yx;rw [e0,k3];rfl
   refine⟨w.2+1+1,b.kids,eB,λy hy=>Q6.jt hy,λy hy x hx=> ?_,λx hx kx=> ?_⟩
   ·rw [eB]at hy;exact sub x (VF hy hx)
   ·have:=inw x hx kx;rw [xY]at this;rw [eB];rcases iz.1 this with rfl|h
    ·have:b.f.kind=3:=eq_of_beq k3;rcases kx with(kx|kx)|kx
     ·have kx:b.f.kind=_:=kx;omega
     ·have kx:b.f.kind=_:=kx;omega
     ·exact absurd (show NK b.f.kind by unfold NK;omega) kx
    ·exact h
  |false=>
   have eB:yx w=[(b,w.2+1)]:=by unfold yx;rw [e0,k3,eT];rfl
   refine⟨w.2+1,[b],eB,λy hy=>by rw [sP.1 hy];exact Q6,λy hy x hx=> ?_,λx hx kx=> ?_⟩
   ·rw [eB]at hy;rw [sP.1 hy]at hx;exact sub x hx
   ·rw [eB,lz,Uw,yW];exact inw x hx kx
 obtain⟨k,l,eB,hl,k1,k2⟩:=key;rw [hlL]at hlen d15 ahu DO e3 e4;rw [eB]at hlen d15 ahu DO e3 e4 k1 k2;cases l with
 |nil=>simp [eN]at hlen
 |cons d r=>
 have ed:f.dl=(d,k):=e3;have ej:f.fJ=eN (k+bw d) r:=e4;have avB:d.f.kind=15:=d15;have fd:=(hl d (ji ..)).one;have aZ1:iY (d,k)=[(d,k)]:=by
  obtain⟨a,b'⟩:=fd.kd (by omega);have:d.kids=[]:=by unfold CS.kids;rw [a,b',fd.ka (by omega),fd.AB avB];rfl
  rw [xY];unfold cN;exact iV
 have uH:∀x∈iY ((B.dH p.tasks t).body,first),KK x∨QK x->x=f.dl∨x∈f.fJ.flatMap iY:=λx hx kx=>by
  have:=k2 x (kx.elim (c3 x hx) (c4 x hx)) kx;rw [show eN k (d::r)=(d,k)::eN (k+bw d) r from rfl,lz,aZ1,acS]at this;rw [ed,ej];exact iz.1 this
 have j15:∀x∈f.fJ.flatMap iY,x.1.f.kind≠15:=λx hx=>by
  obtain⟨y,hy,hx⟩:=ov.1 hx;rw [ej]at hy;exact aOm (afo false y.1 y.2 (DO y hy) x hx)
 refine⟨e1,e2,by rw [ed];exact avB,by rw [ed];exact ahu,?_,⟨r.flatMap jm,k+bw d,by rw [ej,aMz]⟩,?_,?_,?_,λx hx=> ?_,fv,j15⟩
 ·rw [ed];exact c2 _ (k1 (d,k) (ji ..) _ (aLQ _))
 ·intro x hx;obtain⟨y,hy,hx⟩:=ov.1 hx;rw [ej]at hy;exact c2 _ (k1 y (jV _ hy) x hx)
 ·intro x hx yH;rcases uH x hx (.inl (.inl yH))with h|h
  ·exact h
  ·exact absurd yH (j15 x h)
 ·intro x hx ot;rcases uH x hx (.inl (.inr ot))with h|h
  ·rw [h,ed]at ot;have:d.f.kind=20:=ot;omega
  ·exact h
 ·refine anJ (dec:=Classical.propDecidable _) λhk=> ?_;rcases uH x hx (.inr hk)with h|h
  ·rw [h,ed]at hk;exact hk (show NK d.f.kind by unfold NK;omega)
  ·obtain⟨y,hy,hx⟩:=ov.1 h;rw [ej]at hy;exact VU (hl y.1 (jV _ (A5 hy))) (DO y hy) x hx hk
end
def QF(q:Nat)(x:NB):Bool:=x.1.f.kind==20&&x.1.f.P.toNat==q
def pI(F:List NB)(q:Nat):dy:=(F.filter (QF q)).map (·.2)
def sF(l:dy):cj:=l.map λ(n:Nat)=>(n:Int)
def aQx(l:List cj)(k q:Nat)(v:cj):(l.set k v).getD q []=if k=q/\q<l.length then v else l.getD q []:=by
 rw [pA,pA,zX]
 by_cases h:k=q
 ·subst h
  by_cases h2:k<l.length
  ·simp [h2]
  ·simp [h2]
 ·simp [h]
def ad0(bW:List PR)(prio:Int):∀(F:List NB) (s:US) (q:Nat),q<s.al.length->(F.foldl (qD bW prio) s).al.getD q []=s.al.getD q []++sF (pI F q)
 | [],s,q,_=>by simp [pI,sF]
 |x::F,s,q,hq=>by
  rw [vS];cases hk:x.1.f.kind==20 with
  |true=>
   have eg:qD bW prio s x=⟨s.al.set x.1.f.P.toNat (s.al.getD x.1.f.P.toNat []++[(x.2:Int)]),s.ok&&decide (prio<=(yh bW x.1.f.P.toNat).ceil)⟩:=by unfold qD;rw [hk];rfl
   rw [eg,ad0 bW prio F _ q (by rw [J6];exact hq)];simp only [aQx];cases hP:x.1.f.P.toNat==q with
   |true=>
    have hP':=eq_of_beq hP;rw [if_pos ⟨hP',hq⟩,hP',pN]
    congr 1
    unfold pI sF;rw [acM (by unfold QF;rw [hk,hP];rfl)];rfl
   |false=>
    rw [if_neg (by intro h;rw [h.1]at hP;simp at hP)]
    congr 1
    unfold pI;rw [TP (by unfold QF;rw [hk,hP];simp)]
  |false=>
   have eg:qD bW prio s x=s:=by unfold qD;rw [hk];rfl
   rw [eg,ad0 bW prio F s q hq]
   congr 1
   unfold pI;rw [TP (by unfold QF;rw [hk];simp)]
abbrev FF(f:FN):List NB:=f.fJ.flatMap iY
def aPZ(f:FN){q:Nat}(hq:q<f.p.bW.length):(wk f).al.getD q []=sF (pI (FF f) q):=by
 have e:wk f=(FF f).foldl (qD f.p.bW f.prio) ⟨List.replicate f.p.bW.length [],true⟩:=by
  rw [acj];rfl
 rw [e,ad0 _ _ _ _ _ (G5)];have z:(List.replicate f.p.bW.length ([]:cj)).getD q []=[]:=by simp [List.getD,hq]
 rw [z,rF]
def uq(f:FN):dy:=(List.range f.p.bW.length).filter λq=>decide (0<(pI (FF f) q).length)
def anN(al:List cj)(g:Nat->dy):∀(l:dy) (s:UN),(∀q∈l,al.getD q []=sF (g q))->(l.foldl (BP al) s).u =s.u++(l.filter λq=>decide (0<(g q).length)).map (λ(q:Nat)=>[iI (q:Int),iI 0])/\
 (l.foldl (BP al) s).n =s.n++(l.filter λq=>decide (0<(g q).length)).map (λq=>[aw (ints (sF (g q)))])
 | [],s,_=>by simp
 |q::l,s,h=>by
  have hq:=h q (ji ..);obtain⟨i1,i2⟩:=anN al g l (BP al s q) λy hy=>h y (jV _ hy);rw [vS,i1,i2];unfold BP;rw [hq,show(sF (g q)).length =(g q).length by simp [sF]];cases hd:decide (0<(g q).length)with
  |true=>
   rw [acM (by simpa using hd)];simp
  |false=>
   rw [TP (by simpa using hd)];simp
def afl(f:FN):(mF f).u =(uq f).map (λ(q:Nat)=>[iI (q:Int),iI 0])/\(mF f).n =(uq f).map (λq=>[aw (ints (sF (pI (FF f) q)))]):=by
 have:=anN (wk f).al (pI (FF f)) (List.range f.p.bW.length) ⟨[],[]⟩ λq hq=>aPZ f (xJ.1 hq);simpa [uq,mF]using this
structure PT where
 t:Nat
 u:Int
 ns:dy
def nH(x:PT):Row:=[iI (x.t:Int),iI x.u,aw (ints (sF x.ns))]
def tN(f:FN):List PT:=⟨f.t,-1,[f.dl.2]⟩::(List.range (uq f).length).map λ(k:Nat)=>⟨f.t,(k:Int),pI (FF f) ((uq f).getD k 0)⟩
def aoG(f:FN):tY f=(tN f).map nH:=by
 obtain⟨_,hn⟩:=afl f;unfold tY tN;rw [hn,dW,my,Ke]
 congr 1
 refine Ur λk hk=> ?_;have hk:=xJ.1 hk;show [iI (f.t:Int),iI (k:Int),aw (gR (gA (mF f).n k) 0)]=[iI (f.t:Int),iI (k:Int),aw (ints (sF (pI (FF f) ((uq f).getD k 0))))];rw [hn];have:gA ((uq f).map λq=>[aw (ints (sF (pI (FF f) q)))]) k=[aw (ints (sF (pI (FF f) ((uq f).getD k 0))))]:=by simp [gA,List.getD,hk]
 exact iV
def uG(f:FN):dy:=(tN f).flatMap PT.ns
def aoy(f:FN):uG f=f.dl.2::(uq f).flatMap (pI (FF f)):=by
 unfold uG tN;rw [lz,List.flatMap_map];show f.dl.2::(List.range (uq f).length).flatMap (λk=>pI (FF f) ((uq f).getD k 0))=_
 congr 1
 have:∀l:dy,(List.range l.length).flatMap (λk=>pI (FF f) (l.getD k 0))=l.flatMap (pI (FF f)):=λl=>by
  have e:l=(List.range l.length).map λk=>l.getD k 0:=by
   refine Om (by simp) λi h1 h2=> ?_;simp [List.getD,h1]
  conv=>rhs;rw [e,List.flatMap_map]
 exact this _
end Go.Proofs.B.C
namespace Go.ah
def EI{p:Prop}(h:p:=by injection h with h _;cases h):p:=h
end Go.ah
namespace Go.Proofs.B.C
open Go Go.ah
section
variable{x:NB}{n q:Nat}
theorem ams:∀(l:List CS) (n:Nat),(qw n l).map (·.2)=List.range' n l.length
 | [],_=>rfl
 |x::l,n=>by
  show n::(qw (n+1) l).map (·.2)=_;rw [ams l,mh,ade]
theorem ank{g:Nat->dy}:∀{l:dy},l.Nodup->(∀a∈l,(g a).Nodup)->(∀a∈l,∀b∈l,∀x,x∈g a->x∈g b->a=b)->(l.flatMap g).Nodup
 | [],_,_,_=>yQ
 |a::l,h1,h2,h3=>by
  obtain⟨ha,hl⟩:=Cq.1 h1;rw [lz,adb];refine⟨h2 a (ji ..),ank hl (λb hb=>h2 b (jV _ hb)) (λb hb c hc=>h3 b (jV _ hb) c (jV _ hc)),λx hx y hy e=> ?_⟩;subst e;obtain⟨b,hb,hy⟩:=ov.1 hy;have:=h3 a (ji ..) b (jV _ hb) x hx hy;subst this;exact ha hb
theorem Ki{F:List NB}:n∈pI F q ↔∃x∈F,x.2=n/\x.1.f.kind=20/\x.1.f.P.toNat=q:=by
 unfold pI QF;simp only [wL,ada,bA,iA];constructor
 ·rintro⟨x,⟨h1,h2,h3⟩,h4⟩;exact⟨x,h1,h4,h2,h3⟩
 ·rintro⟨x,h1,h4,h2,h3⟩;exact⟨x,⟨h1,h2,h3⟩,h4⟩
theorem aoR{f:FN}:q∈uq f ↔ q<f.p.bW.length/\∃n,n∈pI (FF f) q:=by
 unfold uq;rw [ada,xJ,iT,List.length_pos_iff_exists_mem]
section
variable {p:PG} {t first:Nat} {f:FN} (hf:mr p (B.dH p.tasks t).body) (tf:aga p t first f)
include hf tf in
theorem arc(hx:x∈FF f)(hk:x.1.f.kind=20):x.1.f.P.toNat<f.p.bW.length/\0<=x.1.f.P:=by
 have:=(aoo _ _ hf x (tf.FB x hx)).one.sh.lk hk;rw [tf.fp];omega
include hf tf in
theorem aLN:n∈uG f ↔∃x∈iY ((B.dH p.tasks t).body,first),x.2=n/\KK x:=by
 rw [aoy,iz,ov];constructor
 ·rintro(rfl|⟨q,_,hn⟩)
  ·exact⟨f.dl,tf.dB,rfl,.inl tf.dk⟩
  ·obtain⟨x,hx,h1,h2,_⟩:=Ki.1 hn;exact⟨x,tf.FB x hx,h1,.inr h2⟩
 ·rintro⟨x,hx,rfl,h|h⟩
  ·exact .inl (by rw [tf.c15 x hx h])
  ·have hF:=tf.c20 x hx h;obtain⟨r1,_⟩:=arc hf tf hF h;have hl:x.2∈pI (FF f) x.1.f.P.toNat:=Ki.2 ⟨x,hF,rfl,h,rfl⟩;exact .inr ⟨_,aoR.2 ⟨r1,_,hl⟩,hl⟩
include tf in
theorem aJO:(uG f).Nodup :=by
 obtain⟨L,k,hF⟩:=tf.F;have inj:∀x∈FF f,∀y∈FF f,x.2=y.2->x=y:=λx hx y hy h=>by
  have hx:x∈qw k L:=hF▸hx;have hy:y∈qw k L:=hF▸hy;exact ang hx hy h
 rw [aoy,Cq];refine⟨λh=> ?_,ank (List.filter_sublist.nodup List.nodup_range) (λq _=> ?_) λq _ q' _ n h h'=> ?_⟩
 ·obtain⟨q,_,hn⟩:=ov.1 h;obtain⟨x,hx,h1,h2,_⟩:=Ki.1 hn;have e:x=f.dl:=by
   have a:=tf.FB x hx;have b:=tf.dB;rw [acK]at a b;exact ang a b h1
  rw [e,tf.dk]at h2;cases h2
 ·have s:(pI (FF f) q).Sublist ((FF f).map (·.2)):=(List.filter_sublist ..).map _;refine s.nodup ?_;rw [show FF f=qw k L from hF,ams];exact List.nodup_range'
 ·obtain⟨x,hx,h1,_,h2⟩:=Ki.1 h;obtain⟨y,hy,g1,_,g2⟩:=Ki.1 h';rw [<-h2,<-g2,inj x hx y hy (by rw [h1,g1])]
end
def fM(p:PG)(t:Nat):Nat:=(dx (p.tasks.take t)).length
theorem TA:∀a b:List TK,dx (a++b)=dx a++dx b
 | [],_=>rfl
 |x::a,b=>by
  show jm x.body++dx (a++b)=(jm x.body++dx a)++dx b;rw [TA a b,pN]
theorem Ui{p:PG}{t:Nat}(h:t<p.tasks.length):fM p (t+1)=fM p t+bw p.tasks[t].body :=by
 unfold fM;rw [amY h,TA,fI];show _+(jm p.tasks[t].body ++[]).length =_;rw [yW,Kn]
theorem UL(p:PG){t:Nat}(h:p.tasks.length<=t):fM p t=(dx p.tasks).length :=by unfold fM;rw [El h]
theorem anH{p:PG}{t u:Nat}(h:t<=u):fM p t<=fM p u:=by
 induction u with
 |zero=>have:t=0:=by omega
        rw [this];exact gQ _
 |succ u ih=>
  by_cases h2:t<=u
  ·refine pz (ih h2) ?_
   by_cases h3:u<p.tasks.length
   ·rw [Ui h3];omega
   ·rw [UL p (by omega),UL p (by omega)];exact gQ _
  ·have:t=u+1:=by omega
   rw [this];exact gQ _
theorem UE{p:PG}{t:Nat}(h:t<p.tasks.length):x∈iY (p.tasks[t].body,fM p t) ↔ fM p t<=x.2/\x.2<fM p (t+1)/\(dx p.tasks)[x.2]?=some x.1:=by
 have e:dx p.tasks=dx (p.tasks.take t)++(jm p.tasks[t].body ++dx (p.tasks.drop (t+1))):=by
  conv=>lhs;rw [<-Oj t p.tasks,TA,jj h]
  rfl
 rw [acK,T8,Ui h,<-Kn];have lk:∀j,j<(jm p.tasks[t].body).length ->(dx p.tasks)[fM p t+j]?=(jm p.tasks[t].body)[j]?:=λj hj=>by
  rw [e,nT (by unfold fM;omega)];rw [show fM p t+j-(dx (p.tasks.take t)).length =j by unfold fM;omega,kV hj]
 constructor
 ·rintro⟨⟨h1,h2⟩,h3⟩;refine⟨h1,by omega,?_⟩;have:=lk (x.2- fM p t) h2;rw [show fM p t+(x.2- fM p t)=x.2 by omega]at this;rw [this,c8 h2,h3]
 ·rintro⟨h1,h2,h3⟩;have h2:x.2- fM p t<(jm p.tasks[t].body).length :=by omega
  refine⟨⟨h1,h2⟩,?_⟩;have:=lk (x.2- fM p t) h2;rw [show fM p t+(x.2- fM p t)=x.2 by omega,h3,c8 h2]at this;injection this with this;exact this.symm
theorem anB{p:PG}:∀(l:List TK) (t first:Nat) (out fs:List FN),1<=t->tS p l t first out=(0,fs)->
 ∃gs,fs=out++gs/\gs.length=l.length/\∀i (h:i<gs.length),one p (t+i) (first+(dx (l.take i)).length)=(0,gs[i])
 | [],t,first,out,fs,_,h=>by
   injection h with _ h;exact⟨[],by rw [yW];exact h.symm,rfl,λi h=>absurd h (by simp)⟩
 |x::l,t,first,out,fs,ht,h=>by
  unfold tS at h;have t0:(t==0)=false:=eE;rw [t0,bM]at h;cases ho:(one p t first).1 ==0 with
  |false=>
   rw [ho,bM]at h;injection h with h _;rw [h]at ho;cases ho
  |true=>
   rw [ho,bT]at h;obtain⟨gs,h1,h2,h3⟩:=anB l (t+1) _ _ _ (by omega) h;refine⟨(one p t first).2 ::gs,by rw [h1,pN];rfl,by simp [h2],λi hi=> ?_⟩;cases i with
   |zero=>
    show one p t first=(0,(one p t first).2)
    exact Prod.ext (eq_of_beq ho) rfl
   |succ i=>
    have hi2:i<gs.length:=EF;have:=h3 i hi2;rw [show t+(i+1)=t+1+i by omega,T1];show one p (t+1+i) (first+(jm x.body++dx (l.take i)).length)=(0,gs[i]'hi2);rw [fI,Kn,<-tF];exact iK
theorem UF{p:PG}{fs:List FN}(h0:0<p.tasks.length)(h:mM p=(0,fs)):fs.length+1=p.tasks.length/\∀i (h:i<fs.length),one p (i+1) (fM p (i+1))=(0,fs[i]):=by
 have hL:tS p p.tasks 0 0 []=(0,fs):=by
  unfold mM at h;dsimp only at h;cases a:(nL false ((B.dH p.tasks 0).body,0)).bd <;>rw [a]at h
  ·simp only [bM]at h;cases b: !((nL false ((B.dH p.tasks 0).body,0)).st.all λx=>jq false x.1)<;>rw [b]at h
   ·simp only [bM]at h;cases c: !jq true (nL false ((B.dH p.tasks 0).body,0)).e.1 <;>rw [c]at h
    ·simp only [bM]at h;cases d:p.tasks.length==1<;>rw [d]at h
     ·exact h
     ·exact EI
    ·exact EI
   ·exact EI
  ·exact EI
 cases hT:p.tasks with
 |nil=>rw [hT]at h0;cases h0
 |cons x l=>
  rw [hT]at hL;obtain⟨gs,h1,h2,h3⟩:=anB l 1 (0+bw x.body) [] fs (by omega) hL;rw [rF]at h1;subst h1;refine⟨by rw [h2];rfl,λi hi=> ?_⟩;have:=h3 i hi;rw [show i+1=1+i by omega];unfold fM;rw [hT,show 1+i=i+1 by omega,T1];show one p (i+1) (jm x.body++dx (l.take i)).length =_;rw [fI,Kn,show i+1=1+i by omega];rw [Cw]at this;exact iK
end
end Go.Proofs.B.C
namespace Go.ah
def apy{p:Prop}(h:p:=by show _<fM p (fs[i].t +1);rw [tf.et];exact b):p:=h
def apo{p:Prop}(h:p:=by show fM p fs[i].t <=_;rw [tf.et];exact a):p:=h
end Go.ah
namespace Go.Proofs.B.C
open Go Go.ah
section
variable{n:Nat}
theorem anj{α:Type}{g:α->dy}:∀{l:List α},l.Pairwise (λa b=>∀x,x∈g a->x∈g b->False)->(∀a∈l,(g a).Nodup)->(l.flatMap g).Nodup
 | [],_,_=>yQ
 |a::l,h,h2=>by
  obtain⟨h0,h1⟩:=List.pairwise_cons.1 h;rw [lz,adb];refine⟨h2 a (ji ..),anj h1 λb hb=>h2 b (jV _ hb),λx hx y hy e=> ?_⟩;subst e;obtain⟨b,hb,hy⟩:=ov.1 hy;exact h0 b hb x hx hy
structure GP(p:PG)(fs:List FN)(x:PT):Prop where
 t1:1<=x.t
 t2:x.t<=fs.length
 u1: -1<=x.u
 u2:∀h:x.t- 1<fs.length,x.u<((uq fs[x.t- 1]).length :Int)
 ns:x.ns≠ []
 one:x.u<0->x.ns.length=1
 nn:∀n∈x.ns,fM p x.t<=n/\n<fM p (x.t+1)/\∃s,(dx p.tasks)[n]?=some s/\(x.u<0->s.f.kind=15/\s.f.sC=true)/\(0<=x.u->s.f.kind=20/\∀h:x.t- 1<fs.length,s.f.P=((uq fs[x.t- 1]).getD x.u.toNat 0:Nat))
section
variable {p:PG} (jA:∀t∈p.tasks,mr p t.body) (h0:0<p.tasks.length) {fs:List FN} (hf:mM p=(0,fs))
include jA h0 hf in
theorem Oq(i:Nat)(hi:i<fs.length):∃h:i+1<p.tasks.length,mr p p.tasks[i+1].body /\B.dH p.tasks (i+1)=p.tasks[i+1]/\aga p (i+1) (fM p (i+1)) fs[i]:=by
 obtain⟨h1,h2⟩:=UF h0 hf;have h:i+1<p.tasks.length:=by omega
 have ht:B.dH p.tasks (i+1)=p.tasks[i+1]:=by unfold B.dH;simp [List.getD,h]
 have ha:=jA _ (cY h);exact⟨h,ha,ht,aM3 (by rw [ht];exact ha) (h2 i hi)⟩
include jA h0 hf in
theorem UW(i:Nat)(hi:i<fs.length):n∈uG fs[i] ↔ fM p (i+1)<=n/\n<fM p (i+2)/\∃s,(dx p.tasks)[n]?=some s/\(s.f.kind=15∨s.f.kind=20):=by
 obtain⟨h,ha,ht,tf⟩:=Oq jA h0 hf i hi;rw [aLN (by rw [ht];exact ha) tf,ht];constructor
 ·rintro⟨x,hx,rfl,hk⟩;obtain⟨a,b,c⟩:=(UE h).1 hx;exact⟨a,b,x.1,c,hk⟩
 ·rintro⟨a,b,s,c,hk⟩;exact⟨(s,n),(UE h).2 ⟨a,b,c⟩,rfl,hk⟩
include jA h0 hf in
theorem aKl:(fs.flatMap uG).Nodup :=by
 refine anj (J2.2 λi j hi hj sI x hx hy=> ?_) λf B3=> ?_
 ·have a:=((UW jA h0 hf i hi).1 hx).2.1;have b:=((UW jA h0 hf j hj).1 hy).1;have:=anH (p:=p) (t:=i+2) (u:=j+1) (by omega);omega
 ·obtain⟨i,hi,rfl⟩:=yV B3;obtain⟨_,_,_,tf⟩:=Oq jA h0 hf i hi;exact aJO tf
theorem arp{p:PG}{n:Nat}:∀k,fM p 1<=n->n<fM p (k+1)->∃i,i<k/\fM p (i+1)<=n/\n<fM p (i+2)
 |0,h1,h2=>by simp only [Cw]at h2;omega
 |k+1,h1,h2=>by
  by_cases h:n<fM p (k+1)
  ·obtain⟨i,a,b⟩:=arp k h1 h;exact⟨i,by omega,b⟩
  ·exact⟨k,by omega,by omega,h2⟩
include jA h0 hf in
theorem aMV:n∈fs.flatMap uG ↔ fM p 1<=n/\∃s,(dx p.tasks)[n]?=some s/\(s.f.kind=15∨s.f.kind=20):=by
 obtain⟨h1,_⟩:=UF h0 hf;rw [ov];constructor
 ·rintro⟨f,B3,hn⟩;obtain⟨i,hi,rfl⟩:=yV B3;obtain⟨a,_,c⟩:=(UW jA h0 hf i hi).1 hn;have:=anH (p:=p) (t:=1) (u:=i+1) (by omega);exact⟨by omega,c⟩
 ·rintro⟨a,s,hs,hk⟩;have bI:n<(dx p.tasks).length :=(dX.1 hs).1;obtain⟨i,hi,b,c⟩:=arp (p:=p) (n:=n) fs.length a (by rw [UL p (by omega)];exact bI);exact⟨fs[i],cY hi,(UW jA h0 hf i hi).2 ⟨b,c,s,hs,hk⟩⟩
include jA h0 hf in
theorem aL7(i:Nat)(hi:i<fs.length):∀x∈tN fs[i],GP p fs x:=by
 obtain⟨h,ha,ht,tf⟩:=Oq jA h0 hf i hi;intro x hx;unfold tN at hx;rcases iz.1 hx with rfl|hx
 ·obtain⟨a,b,c⟩:=(UE h).1 (by rw [<-ht];exact tf.dB);refine⟨by show 1<=fs[i].t;rw [tf.et];omega,by show fs[i].t <=_;rw [tf.et];omega,vR _,λ_=>by show(-1:Int)<_;omega,by simp,λ_=>rfl,λn hn=> ?_⟩;rw [sP.1 hn];refine⟨apo,apy,_,c,λ_=>⟨tf.dk,tf.dt⟩,λh=>absurd h (by show¬(0:Int)<=-1;omega)⟩
 ·obtain⟨k,hk,rfl⟩:=wL.1 hx;have hk:=xJ.1 hk;have et:∀h':fs[i].t - 1<fs.length,fs[fs[i].t - 1]=fs[i]:=λh'=>by
   have:fs[i].t - 1=i:=by rw [tf.et];omega
   simp only [this]
  have gq:(uq fs[i]).getD k 0=(uq fs[i])[k]:=by simp [List.getD,hk]
  have hq:=cY hk;obtain⟨q1,n0,q2⟩:=aoR.1 hq;refine⟨by show 1<=fs[i].t;rw [tf.et];omega,by show fs[i].t <=_;rw [tf.et];omega,by show(-1:Int)<=(k:Int);omega,λh'=> ?_,?_,λh'=>absurd h' (by show¬(k:Int)<0;omega),λn hn=> ?_⟩
  ·show(k:Int)<((uq fs[fs[i].t - 1]).length :Int);rw [et h'];omega
  ·show pI (FF fs[i]) ((uq fs[i]).getD k 0)≠ [];rw [gq];exact List.ne_nil_of_mem q2
  ·have hn:n∈pI (FF fs[i]) ((uq fs[i]).getD k 0):=hn;obtain⟨y,hy,rfl,y1,y2⟩:=Ki.1 hn;obtain⟨a,b,c⟩:=(UE h).1 (by rw [<-ht];exact tf.FB y hy);obtain⟨_,z⟩:=arc (by rw [ht];exact ha) tf hy y1;refine⟨apo,apy,_,c,λh'=>absurd h' (by show¬(k:Int)<0;omega),λ_=>⟨y1,λh'=> ?_⟩⟩;show y.1.f.P=(((uq fs[fs[i].t - 1]).getD (k:Int).toNat 0:Nat):Int);rw [et h',ow,<-y2];omega
end
def bump(l:cj)(n:Nat):cj:=l.set n (aU (l.getD n 0+1))
theorem Uj(l:cj)(n:Nat):(bump l n).length =l.length:=by simp [bump]
theorem acJ:∀(S:dy) (l:cj),(S.foldl bump l).length =l.length
 | [],l=>rfl
 |n::S,l=>by rw [vS,acJ S,Uj]
theorem amN:∀(S:dy) (l:cj) (n:Nat),n<l.length->(∀m∈S,m<l.length)->(∀m,0<=l.getD m 0/\l.getD m 0+S.length<=1000000)->(S.foldl bump l).getD n 0=l.getD n 0+(S.count n:Int)
 | [],l,n,_,_,_=>by simp
 |m::S,l,n,hn,hS,hb=>by
  have hm:=hS m (ji ..);have hbm:=hb m;have gd:∀j,(bump l m).getD j 0=if m=j then l.getD m 0+1 else l.getD j 0:=λj=>by
   unfold bump;rw [mi (by omega) (by omega),pA,zX]
   by_cases h:m=j
   ·subst h;simp [hm]
   ·simp [h,pA]
  rw [vS,amN S (bump l m) n (by rw [Uj];exact hn) (λj hj=>by rw [Uj];exact hS j (jV _ hj)) (λj=> ?_),gd,Uo]
  ·by_cases h:m=n
   ·subst h;rw [if_pos rfl,TQ,if_pos rfl];omega
   ·rw [if_neg h,show(m==n)=false by simpa using h];simp
  ·have hbj:=hb j;rw [gd];rw [mh]at hbj hbm;split<;>omega
end
end Go.Proofs.B.C
namespace Go.ah
def adD:=@decide_eq_decide
end Go.ah
namespace Go.Proofs.B.C
open Go Go.ah
theorem aKK(s:CS):jm s=s::yb s.kids:=by rw [acv,adp]
theorem aNB(a b:List CS):iH (a++b)= dv (a.map encS++b.map encS):=by
 show dv ((a++b).map encS)=_;rw [sR]
theorem Qg:∀s:CS,s.Ok->∀acc:List CS,acc.length+(jm s).length <=eo->Ev Th [aS s,iH acc] (0,[iH (acc++jm s)]):=by
 refine CS.ind λs ih aX acc hb=> ?_;have tP:∀y∈s.kids,y.Ok:=aeT;have kl:=Ud aX;have DQ:=aKK s;rw [DQ]at hb⊢;simp only [mh,eo]at hb;have k:=fP (m:=s.kids.length) (P:=λi=>∀acc:List CS,acc.length+(yb (s.kids.drop i)).length <=eo->bS Sy [iI (i:Int),iH s.kids,iH acc] (0,[iH s.kids,iH (acc++yb (s.kids.drop i))]))
  (λacc _=>by
    rw [jE];exact aY ajW (au dw (ab (by simp [yb]))))
  λi hi gN acc im=>by
   have hm:=cY hi;have gs:aF fC 0 (gA (s.kids.map encS) ((i:Int).toNat))=encS s.kids[i]:=Kz;have e:=aJi hi;rw [e]at im⊢;rw [fI]at im;have j:=ih s.kids[i] hm (tP _ hm) acc (by omega);refine aY ajW (aV (cZ hi) (az (cw hi) (az (toN_lt (cw hi)) ?_)));rw [gs,J8 (by omega)];refine ae j ?_;rw [<-pN];exact gN (acc++jm s.kids[i]) (aer)
 refine bj aIf (az (EH) ?_);rw [kZ];refine ae (ag8 aX) ?_;have k0:=k (acc++[s]) (by rw [fI,nU];simp only [mh,tG,eo];omega);rw [aNB]at k0;refine ae k0.diag (ab ?_);show(0,[iH ((acc++[s])++yb (s.kids.drop 0))])=_;rw [nU,pN];rfl
theorem aoL:∀s:CS,s.Ok->bw s<=eo->Ev NV [aS s] (0,[iI (bw s:Int)]):=by
 refine CS.ind λs ih aX hb=> ?_;have tP:∀y∈s.kids,y.Ok:=aeT;have kl:=Ud aX;rw [En]at hb;have k:=fP (m:=s.kids.length) (P:=λi=>∀c:Nat,c+fG (s.kids.drop i)<=eo->bS SJ [iI (c:Int),iI (i:Int),iH s.kids] (0,[iI ((c+fG (s.kids.drop i):Nat):Int),iH s.kids]))
  (λc _=>by rw [jE];exact aY ake (au dw aD))
  λi hi gN c im=>by
   have hm:=cY hi;have gs:aF fC 0 (gA (s.kids.map encS) ((i:Int).toNat))=encS s.kids[i]:=Kz;have e:fG (s.kids.drop i)=bw s.kids[i]+fG (s.kids.drop (i+1)):=G8;rw [e]at im⊢;have j:=ih s.kids[i] hm (tP _ hm) (by omega);refine aY ake (aV (cZ hi) (az (cw hi) (az (toN_lt (cw hi)) ?_)));rw [gs,J8 (by omega)];refine ae j ?_;have:=gN (c+bw s.kids[i]) (by omega);rw [tF]at this;rw [<-Ep (a:=c) (b:=bw s.kids[i]) (by simp only [eo]at im⊢;omega)]at this;exact iK
 have k0:=k 1 (by rw [nU];exact hb);rw [nU,<-En]at k0;refine bj aIW ?_;rw [kZ];exact ae (ag8 aX) (ae k0.diag aD)
section
variable {p:PG} (hp:p.Ok)
include hp in
theorem aZ0(hn:(dx p.tasks).length <=eo)(h:Ev Ue [aG p] (0,[c5])):Ev adt [aG p] (0,[iH (dx p.tasks)]):=by
 have k:=fP (m:=p.tasks.length) (P:=λi=>∀acc:List CS,acc.length+(dx (p.tasks.drop i)).length <=eo->bS S7 [iI (i:Int),aG p,iH acc] (0,[aG p,iH (acc++dx (p.tasks.drop i))]))
  (λacc _=>by
    rw [jE];exact aY akX (au (dw (f:=cA) (l:=p.tasks)) (ab (by simp [dx];rfl))))
  λi hi ih acc hb=>by
   have hk:=hp.task _ (cY hi);have gb:aF fC 2 (gA (gR (jB p) 2) ((i:Int).toNat))=encS p.tasks[i].body :=V5;have e:dx (p.tasks.drop i)=jm p.tasks[i].body ++dx (p.tasks.drop (i+1)):=G8;rw [e]at hb⊢;simp only [fI]at hb;have j:=Qg p.tasks[i].body hk.body acc (by omega);refine aY akX (aV (cZ (f:=cA) hi) (az (cw (f:=cA) hi) ?_));rw [gb,ix hi hp.tasks];refine ae j ?_;rw [<-pN];exact ih (acc++jm p.tasks[i].body) (by simp only [fI];omega)
 have k0:=k [] (by rw [nU];simpa using hn);rw [nU]at k0;exact bj aJ6 (ae h (bm (ae k0.diag aD)))
def XT(p:PG):Bool:=bif decide (40<p.tasks.length)then true else bif decide (300<p.bq.length)then true else p.tasks.any λt=>decide (1000<bw t.body)
include hp in
theorem aNA(hb:∀t∈p.tasks,bw t.body<=eo):Ev ach [aG p] (0,[av (XT p)]):=by
 have k:=CQ (l:=p.tasks) (p:=λt=>decide (1000<bw t.body)) (hit:=(0,[c5,aG p])) (done:=(1,[aG p])) (LF:=λi N m=>SZ (FU CX EE N) N m [iI (ln (p.tasks.map cA)),iI (i:Int),aG p])
  (aY akF (au dw aD))
  λi hi r h1 h2=>aY akF<|aV (cZ hi)<|az (cw (f:=cA) hi)<|by
   have hm:=cY hi;have gb:aF fC 2 (gA (gR (jB p) 2) ((i:Int).toNat))=encS p.tasks[i].body :=V5;rw [gb,ix hi hp.tasks];refine ae (aoL _ (hp.task _ hm).body (hb _ hm)) (ax (c:=decide ((1000:Int)<(bw p.tasks[i].body :Int))) (λh=>ab (h1 ?_)) λh=>h2 ?_)
   ·rw [iT]at h⊢;omega
   ·rw [ui]at h⊢;omega
 have e1:decide ((40:Int)<ln (p.tasks.map cA))=decide (40<p.tasks.length):=by rw [c9,adD];omega
 have e2:decide ((300:Int)<ln (p.bq.map iX))=decide (300<p.bq.length):=by rw [c9,adD];omega
 refine bj aIX ?_;show E (λN _=>bif decide ((40:Int)<ln (p.tasks.map cA))then _ else bif decide ((300:Int)<ln (p.bq.map iX))then _ else _) _;rw [e1,e2];unfold XT;refine ax (c:=decide (40<p.tasks.length)) (λh=>ab (iW)) λh=>ax (c:=decide (300<p.bq.length)) (λh2=>ab (wW)) λh2=> ?_;rw [h,h2];refine ae k.diag ?_;rw [bM,bM];cases p.tasks.any λt=>decide (1000<bw t.body)with
 |true=>exact wQ
 |false=>exact rI
end
section
variable{p:PG}
def aoF(fs:List FN):fs.flatMap tY=(fs.flatMap tN).map nH:=by
 induction fs with
 |nil=>rfl
 |cons f fs ih=>rw [lz,lz,sR,aoG,ih]
def aM1(f:FN):(uq f).length <=f.p.bW.length:=by
 have:=List.length_filter_le (λq=>decide (0<(pI (FF f) q).length)) (List.range f.p.bW.length);rw [Ux]at this;exact iK
def aLW(f:FN):(tN f).length =(uq f).length +1:=by simp [tN]
def anV{n:Nat}:∀(fs:List FN),(∀f∈fs,f.p.bW.length<=n)->(fs.flatMap tY).length <=fs.length*(n+1)
 | [],_=>by simp
 |f::fs,h=>by
  have h1:=h f (ji ..);have h2:=aM1 f;have h3:=anV fs λg hg=>h g (jV _ hg);rw [lz,fI,aoG,dW,aLW,mh,adg];omega
def aoe(h:(mM p).1 ≠0):(mM p).2 =[]:=by
 unfold mM at h⊢;dsimp only at h⊢;cases a:(nL false ((B.dH p.tasks 0).body,0)).bd <;>rw [a]at h
 ·simp only [bM]at h⊢;cases b: !((nL false ((B.dH p.tasks 0).body,0)).st.all λx=>jq false x.1)<;>rw [b]at h
  ·simp only [bM]at h⊢;cases c: !jq true (nL false ((B.dH p.tasks 0).body,0)).e.1 <;>rw [c]at h
   ·simp only [bM]at h⊢;cases d:p.tasks.length==1<;>rw [d]at h
    ·exact Uf p _ _ _ _ h
    ·rfl
   ·rfl
  ·rfl
 ·rfl
def aMy{fs:List FN}(h:mM p=(0,fs)):p.tasks.length≠1:=by
 intro h1;unfold mM at h;dsimp only at h;rw [h1]at h;cases a:(nL false ((B.dH p.tasks 0).body,0)).bd <;>rw [a]at h
 ·simp only [bM]at h;cases b: !((nL false ((B.dH p.tasks 0).body,0)).st.all λx=>jq false x.1)<;>rw [b]at h
  ·simp only [bM]at h;cases c: !jq true (nL false ((B.dH p.tasks 0).body,0)).e.1 <;>rw [c]at h
   ·exact EI
   ·exact EI
  ·exact EI
 ·exact EI
def D1(p:PG)(b:Bool):Int×List FN:=bif b then mM p else(2,[])
def aMA(hM:Ev xA [aG p] (0,[aT])):Ev Nr [aG p] (0,[iI 2,sg []]):=by
 refine bj akH ?_;rw [wa];exact ae hM (bh aD)
def aZU{b:Bool}(hM:Ev xA [aG p] (0,[av b]))(hf:b=true->yn p/\0<p.tasks.length/\((mM p).2.flatMap tY).length <=md):
 Ev JC [aG p] (0,[iI (D1 p b).1,mg ((D1 p b).2.map lO)])/\Ev JB [aG p] (0,[iI (D1 p b).1,lP (((D1 p b).2.flatMap tN).map nH)]):=by
 cases b with
 |true=>
  obtain⟨f,h0,hb⟩:=hf rfl;have:=aed f h0 hM hb;rw [aoF]at this;exact⟨aff f h0 hM,this⟩
 |false=>
  have h:=aMA hM;refine⟨bj akq ?_,bj akp ?_⟩
  ·rw [wa];exact ae h (ae (aom (l:=[]) (by simp)).diag aD)
  ·rw [wa];exact ae h (ae (anW (l:=[]) (by simp) (by simp)).diag aD)
end
end Go.Proofs.B.C
namespace Go.ah
def Vf{p:Prop}(h:p:=by rw [aMv];omega):p:=h
def apf{p:Prop}(h:p:=by rw [dW,ow];exact tE h1):p:=h
def apd{p:Prop}(h:p:=by rw [dW,ow];exact tE l1):p:=h
def apc{p:Prop}(h:p:=by rw [dW,ow];exact tE l2):p:=h
end Go.ah
namespace Go.ah
def yT:=@decide_eq_false
end Go.ah
namespace Go.Proofs.B.C
open Go Go.ah
section
variable{x:PT}
theorem ints_set(l:cj)(k:Nat)(v:Int):(ints l).set k [iI v]=ints (l.set k v):=by simp [ints,Ol]
theorem anU{l:cj}{k:Nat}(h:k<l.length)(v:Int):(ints l).set ((k:Int).toNat) (setAt (gA (ints l) ((k:Int).toNat)) 0 [iI v])=ints (l.set k v):=by
 rw [gf h,<-ints_set,ow];rfl
def qC(p:PG)(i:Nat):cj:=(List.range (p.tasks.length+1)).map λ(t:Nat)=>((bif decide (t<=i)then fM p t else 0:Nat):Int)
def fst(p:PG):cj:=(List.range (p.tasks.length+1)).map λ(t:Nat)=>(fM p t:Int)
theorem anw(p:PG)(i:Nat):(qC p i).length =p.tasks.length+1:=by simp [qC]
theorem aMv(p:PG):(fst p).length =p.tasks.length+1:=by simp [fst]
theorem aKY(p:PG):qC p p.tasks.length=fst p:=by
 unfold qC fst;refine Ur λt ht=> ?_;have:=xJ.1 ht;rw [tE (by omega),bT]
theorem aNP(p:PG):List.replicate (p.tasks.length+1) ([iI 0]:Row)=ints (qC p 0):=by
 refine Om (by simp [qC]) λi h1 h2=> ?_;simp only [List.getElem_replicate,ints,qC,Up,On];cases i with
 |zero=>rfl
 |succ i=>rw [yT (by omega)];rfl
theorem aJ1(p:PG)(i:Nat)(h:i<p.tasks.length):(qC p i).set (i+1) (fM p (i+1):Int)=qC p (i+1):=by
 refine Om (by simp [qC]) λj h1 h2=> ?_;rw [List.getElem_set];simp only [qC,Up,On]
 by_cases e:i+1=j
 ·subst e;rw [if_pos rfl,tE (gQ _),bT]
 ·rw [if_neg e]
  by_cases e2:j<=i
  ·rw [tE e2,tE (show j<=i+1 by omega)]
  ·rw [yT e2,yT (show¬j<=i+1 by omega)]
theorem aMw(p:PG)(i:Nat)(h:i<p.tasks.length):(qC p i).getD i 0=(fM p i:Int):=by
 unfold qC;rw [pA,kW,wP (by omega)];simp
theorem ae7{p:PG}{t:Nat}(h:t<=p.tasks.length):gI (gA (ints (fst p)) ((t:Int).toNat)) 0=(fM p t:Int):=by
 rw [pO (Vf)];unfold fst;rw [pA,kW,wP (by omega)];simp
section
variable {p:PG} (hp:p.Ok) (hb:∀t∈p.tasks,bw t.body<=1000) (hT:p.tasks.length<=40)
include hb in
theorem afi:∀i,i<=p.tasks.length->fM p i<=i*1000
 |0,_=>by simp [fM,dx]
 |i+1,h=>by
  have:=afi i (by omega);have h2:=hb _ (cY (show i<p.tasks.length by omega));rw [Ui (by omega)];omega
include hp hb hT in
theorem aZF:bY RN [aG p,aw (ints (qC p 0))] (0,[aG p,aw (ints (fst p))]):=by
 have k:=fP (m:=p.tasks.length) (P:=λi=>bS RK [iI (ln (p.tasks.map cA)),iI (i:Int),aG p,aw (ints (qC p i))] (0,[aG p,aw (ints (fst p))]))
  (by rw [aKY];exact aY aiJ (au dw (ab (by rw [wa])))) λi hi ih=>by
    have hm:=cY hi;have gb:aF fC 2 (gA (gR (jB p) 2) ((i:Int).toNat))=encS p.tasks[i].body :=V5;have l1:i<(qC p i).length :=by rw [anw];omega
    have l2:i+1<(qC p i).length :=by rw [anw];omega
    have c1:=afi hb i (by omega);have c2:=hb _ hm;have hn:=aoL _ (hp.task _ hm).body (show bw p.tasks[i].body <=eo by simp only [eo];omega);refine aY aiJ (aV (cZ hi) (az (cw l1) (az (apd) (az (cw (f:=cA) hi) ?_))));rw [gb,ix hi hp.tasks,wa];refine ae hn (az (cw l2) (az (apc) ?_));have e:(ints (qC p i)).set (((i+1:Nat):Int).toNat) (setAt (gA (ints (qC p i)) (((i+1:Nat):Int).toNat)) 0 [iI (aU (gI (gA (ints (qC p i)) ((i:Int).toNat)) 0+gI [iI (bw p.tasks[i].body :Int)] 0))])=ints (qC p (i+1)):=by
     rw [pO l1,aMw p i hi];show(ints (qC p i)).set (((i+1:Nat):Int).toNat) (setAt (gA (ints (qC p i)) (((i+1:Nat):Int).toNat)) 0 [iI (aU ((fM p i:Int)+(bw p.tasks[i].body :Int)))])=_;rw [mi (by omega) (by omega),show(fM p i:Int)+(bw p.tasks[i].body :Int)=(fM p (i+1):Int)by rw [Ui hi];omega,anU l2,aJ1 p i hi]
    erw [e];exact ih
 refine bX azh ?_;rw [wa];refine ae k.diag (ab ?_);erw [wa];rfl
end
theorem Hk(x:PT):aF alb 0 (nH x)=nH x:=rfl
theorem avf(x:PT):gI (nH x) 0=(x.t:Int):=rfl
theorem aX6(x:PT):gI (nH x) 1=x.u:=rfl
theorem aX5(x:PT):gR (nH x) 2=ints (sF x.ns):=rfl
section
variable {p:PG} {fs:List FN} (hlen:fs.length+1=p.tasks.length) (hT:p.tasks.length<=40)
include hlen hT in
theorem ptJ(g:GP p fs x):bY Y6 [mg (fs.map lO),aa (nH x)] (0,[mg (fs.map lO),aa (nH x)]):=by
 have t1:=g.t1;have t2:=g.t2;have h1:x.t- 1<fs.length:=by omega
 have hw:aU ((x.t:Int)- 1)=((x.t- 1:Nat):Int):=zb;refine bX ayh ?_;rw [Hk,avf,aX6,aX5,hw,gf h1];have u:ln (gR (lO fs[x.t- 1]) 6)=((uq fs[x.t- 1]).length :Int):=by
  show ln (mF fs[x.t- 1]).u =_;rw [(afl _).1,c9]
 refine au (yT (by omega)) (au (by rw [c9];exact yT (by omega)) (au (yT (by have:=g.u1;omega)) (az (cw h1) (az (apf) (au (by rw [u];exact yT (by have:=g.u2 h1;omega)) (au ?_ aD))))));have:=g.ns;cases hx:x.ns with
 |nil=>exact absurd hx this
 |cons a l=>
  show(ln (ints (sF (a::l)))==0)=false;simp [ln,ints,sF];omega
include hlen hT in
theorem rgJ(g:GP p fs x){n:Nat}(h1:fM p x.t<=n)(h2:n<fM p (x.t+1)):bY YX [iI (n:Int),aw (ints (fst p)),aa (nH x)] (0,[aw (ints (fst p)),aa (nH x)]):=by
 have t1:=g.t1;have t2:=g.t2;have l1:x.t<(fst p).length :=Vf;have l2:x.t+1<(fst p).length :=Vf;have hw:aU ((x.t:Int)+1)=((x.t+1:Nat):Int):=zb;refine bX axN ?_;rw [Hk,avf,hw,ae7 (by omega),ae7 (by omega)];exact az (cw l1) (az (apd) (au (yT (by omega)) (az (cw l2) (az (apc) (au (yT (by omega)) aD)))))
end
end
end Go.Proofs.B.C
namespace Go.ah
def ape{p:Prop}(h:p:=by rw [dW,ow];exact tE hi):p:=h
end Go.ah
namespace Go.Proofs.B.C
open Go Go.ah
def nR(l:dy):aE:=l.map λ(n:Nat)=>[iI (n:Int)]
theorem aOS(l:dy):ints (sF l)=nR l:=by simp [ints,sF,nR]
theorem aLC{l:cj}{n:Nat}(h:n<l.length):(ints l).set ((n:Int).toNat) (setAt (gA (ints l) ((n:Int).toNat)) 0 [iI (aU ((gI (gA (ints l) ((n:Int).toNat)) 0)+1))])=ints (bump l n):=by
 rw [anU h,pO h];rfl
section
variable {p:PG} {fs:List FN} (hlen:fs.length+1=p.tasks.length) (hT:p.tasks.length<=40) (hN:(dx p.tasks).length <=40000)
include hlen hT hN in
theorem inE{x:PT}(g:GP p fs x)(hx:x.ns.length<=mx)(l:cj)(hl:l.length=(dx p.tasks).length):
 bS Ca [aw (nR x.ns),iI (ln (nR x.ns)),iI 0,mg (fs.map lO),iH (dx p.tasks),aw (ints l),aw (ints (fst p)),aa (nH x)]
  (1,[mg (fs.map lO),iH (dx p.tasks),aw (ints (x.ns.foldl bump l)),aw (ints (fst p)),aa (nH x)]):=by
 have t1:=g.t1;have t2:=g.t2;refine foldI (l:=x.ns) (g:=bump) (I:=λ_ l=>l.length=(dx p.tasks).length)
  (LF:=λi l N m=>Ca (FU CX EE N) N m [aw (nR x.ns),iI (ln (nR x.ns)),iI (i:Int),mg (fs.map lO),iH (dx p.tasks),aw (ints l),aw (ints (fst p)),aa (nH x)])
  (done:=λl=>(1,[mg (fs.map lO),iH (dx p.tasks),aw (ints l),aw (ints (fst p)),aa (nH x)]))
  (λl _=>aY aiB (au dw (ab (by rw [Hk])))) (λi hi l h=>by rw [Uj];exact h) (λi hi l r hl hr=> ?_) l hl
 obtain⟨a1,a2,s,hs,k1,k2⟩:=g.nn _ (cY hi);generalize hn:x.ns[i]=n at a1 a2 hs hr;have bI:n<(dx p.tasks).length :=(dX.1 hs).1;have hss:(dx p.tasks)[n]=s:=(dX.1 hs).2;have DS:n<l.length:=by omega
 have gn:gI (gA (nR x.ns) ((i:Int).toNat)) 0=(n:Int):=by
  have:=gf (f:=λ(n:Nat)=>([iI (n:Int)]:Row)) hi;rw [hn]at this;show gI (gA (x.ns.map λ(n:Nat)=>([iI (n:Int)]:Row)) ((i:Int).toNat)) 0=_;exact iV
 have gs:gA ((dx p.tasks).map encS) ((n:Int).toNat)=encS s:=by rw [gf bI,hss]
 have g0:gI (encS s) 0=s.f.kind:=uv;have g8:gB (encS s) 8=s.f.sC:=uv;have g4:gI (encS s) 4=s.f.P:=uv;have in1:ib (n:Int) (ints l).length =true:=cw DS;have in2:decide (((n:Int).toNat)<(ints l).length)=true:=by rw [dW,ow];exact tE DS
 have in3:ib (n:Int) ((dx p.tasks).map encS).length =true:=cw bI;have in4:decide (((n:Int).toNat)<((dx p.tasks).map encS).length)=true:=by rw [dW,ow];exact tE bI
 refine aY aiB (aV (cZ hi) (az (cw hi) ?_));rw [gn,gs,g0,g8,g4,Hk,ix hi hx,aLC DS];refine ae (rgJ hlen hT g a1 a2) (bh (az in1 (az in2 (az in1 (az in2 (az in3 (az in4 ?_)))))));erw [Hk]
 by_cases hu:x.u<0
 ·obtain⟨j1,j2⟩:=k1 hu;have o:=g.one hu;refine aV (tE hu) (au (by rw [j1];rfl) (au (by rw [j2];rfl) (au ?_ (au (yT (by show¬(0:Int)<=x.u;omega)) hr))));show(ln (ints (sF x.ns)) != 1)=false;simp [ln,ints,sF,o]
 ·have hu0:0<=x.u:=by omega
  obtain⟨j1,j2⟩:=k2 hu0;have h1:x.t- 1<fs.length:=by omega
  have hw:aU ((x.t:Int)- 1)=((x.t- 1:Nat):Int):=zb;have ru:=g.u2 h1;have e6:gR (lO fs[x.t- 1]) 6=(uq fs[x.t- 1]).map λ(q:Nat)=>([iI (q:Int),iI 0]:Row):=by
   show(mF fs[x.t- 1]).u =_;rw [(afl _).1]
  have hk:x.u.toNat<(uq fs[x.t- 1]).length :=by omega
  have ex:x.u=((x.u.toNat:Nat):Int):=by omega
  refine au (yT hu) (aV (tE hu0) (au (by rw [j1];rfl) ?_));show E (λN m=>ah.a8 (ib (aU ((x.t:Int)- 1)) (fs.map lO).length) (ah.a8 (decide ((aU ((x.t:Int)- 1)).toNat <(fs.map lO).length)) (ah.a8 (ib x.u (gR (gA (fs.map lO) (aU ((x.t:Int)- 1)).toNat) 6).length) (bif s.f.P != gI (gA (gR (gA (fs.map lO) (aU ((x.t:Int)- 1)).toNat) 6) x.u.toNat) 0 then _ else Ca (FU CX EE N) N m [aw (nR x.ns),iI (ln (nR x.ns)),iI ((i+1:Nat):Int),mg (fs.map lO),iH (dx p.tasks),aw (ints (bump l n)),aw (ints (fst p)),aa (nH x)])))) r;rw [hw,gf h1,e6];refine az (cw h1) (az (apf) (az (by rw [ex,dW];exact u9 hk) (au ?_ hr)));have gu:gI (gA ((uq fs[x.t- 1]).map λ(q:Nat)=>([iI (q:Int),iI 0]:Row)) x.u.toNat) 0=(((uq fs[x.t- 1]).getD x.u.toNat 0:Nat):Int):=by
   rw [wR hk];show(((uq fs[x.t- 1])[x.u.toNat]:Nat):Int)=_;simp [List.getD,hk]
  rw [gu,j2 h1];simp
include hlen hT hN in
theorem aYh{P:List PT}(hP:∀x∈P,GP p fs x/\x.ns.length<=mx)(hPl:P.length<=mx)(l:cj)(hl:l.length=(dx p.tasks).length):
 bS MH [iI (ln (P.map nH)),iI 0,mg (fs.map lO),iH (dx p.tasks),aw (ints l),aw (ints (fst p)),lP (P.map nH)]
  (1,[mg (fs.map lO),iH (dx p.tasks),aw (ints ((P.flatMap PT.ns).foldl bump l)),aw (ints (fst p)),lP (P.map nH)]):=by
 have k:=foldI (l:=P) (g:=λl x=>x.ns.foldl bump l) (I:=λ_ l=>l.length=(dx p.tasks).length)
  (LF:=λi l N m=>MH (FU CX EE N) N m [iI (ln (P.map nH)),iI (i:Int),mg (fs.map lO),iH (dx p.tasks),aw (ints l),aw (ints (fst p)),lP (P.map nH)])
  (done:=λl=>(1,[mg (fs.map lO),iH (dx p.tasks),aw (ints l),aw (ints (fst p)),lP (P.map nH)]))
  (λl _=>aY aiG (au dw aD)) (λi hi l h=>by show(P[i].ns.foldl bump l).length =_;rw [acJ];exact h) (λi hi l r hl hr=>by
    obtain⟨g,hx⟩:=hP _ (cY hi);generalize hxx:P[i]=x at g hx hr;have gx:gA (P.map nH) ((i:Int).toNat)=nH x:=by rw [gf hi,hxx]
    refine aY aiG (aV (cZ hi) (az (cw hi) (az (ape) ?_)));rw [gx,Hk,ix hi hPl];refine ae (ptJ hlen hT g) (bh ?_);erw [Hk];refine ae (o:=(1,[mg (fs.map lO),iH (dx p.tasks),aw (ints (x.ns.foldl bump l)),aw (ints (fst p)),aa (nH x)])) ?_ (bm hr);have:=(inE hlen hT hN g hx l hl).diag;rw [<-aOS]at this;exact this) l hl
 have e:∀(P:List PT) (l:cj),P.foldl (λl x=>x.ns.foldl bump l) l=(P.flatMap PT.ns).foldl bump l:=λP=>by
  induction P with
  |nil=>intro l;rfl
  |cons x P ih=>intro l;rw [vS,ih,lz,List.foldl_append]
 rw [e]at k;exact k
end
end Go.Proofs.B.C
namespace Go.ah
def aqT{p:Prop}(h:p:=by
 obtain⟨a,b,rfl⟩:=A7 h;rw [adC,lz,fI,fI];omega):p:=h
def apC{p:Prop}(h:p:=by rw [pA,Eo];split<;>rfl):p:=h
end Go.ah
namespace Go.Proofs.B.C
open Go Go.ah
section
variable{fs:List FN}
def kb(k:Int):Bool:=bif k==20 then true else k==15
def KH(p:PG)(n:Nat)(s:CS):Int:=bif decide (fM p 1<=n)then(bif kb s.f.kind then 1 else 0)else 0
section
variable {p:PG} (hp:p.Ok) (hE:pD) (h2:2<=p.tasks.length)
include h2 in
theorem aN8{n:Nat}{s:CS}:bY Y5 [iI (n:Int),iI 0,aw (ints (fst p)),aa (encS s)] (0,[iI (KH p n s),aw (ints (fst p)),aa (encS s)]):=by
 have l1:1<(fst p).length :=Vf;have g0:gI (encS s) 0=s.f.kind:=uv;have f1:gI (gA (ints (fst p)) 1) 0=(fM p 1:Int):=ae7 (p:=p) (t:=1) (by omega);refine bX ayg ?_;rw [f1,g0,kZ];refine az (by rw [c9];exact tE (by omega)) (az (by rw [dW];exact tE l1) ?_);unfold KH kb;have ed:decide ((fM p 1:Int)<=(n:Int))=decide (fM p 1<=n):=by rw [adD];omega
 rw [ed];refine ax (c:=decide (fM p 1<=n)) (λh=>ax (c:=s.f.kind==20) (λh3=>ab (by rw [h,h3];rfl)) λh3=>ax (c:=s.f.kind==15) (λh4=>ab (by rw [h,h3,h4];rfl)) λh4=>ab (by rw [h,h3,h4];rfl)) λh=>ab (iW)
include h2 in
theorem aO1(hN:(dx p.tasks).length <=mx)(l:cj)(hl:l.length=(dx p.tasks).length)(hw:∀n (h:n<(dx p.tasks).length),l.getD n 0=KH p n (dx p.tasks)[n]):
 bS MG [iI (ln ((dx p.tasks).map encS)),iI 0,aw (ints l),aw (ints (fst p)),iH (dx p.tasks)] (1,[aw (ints l),aw (ints (fst p)),iH (dx p.tasks)]):=by
 refine fP (m:=(dx p.tasks).length) (P:=λi=>bS MG [iI (ln ((dx p.tasks).map encS)),iI (i:Int),aw (ints l),aw (ints (fst p)),iH (dx p.tasks)] (1,[aw (ints l),aw (ints (fst p)),iH (dx p.tasks)]))
  (aY aiF (au dw aD)) λi hi ih=> ?_
 have oR:i<l.length:=by omega
 refine aY aiF (aV (cZ hi) (az (cw hi) (az (ape) ?_)));rw [gf hi,kZ,ix hi hN,pO oR,hw i hi];refine ae (aN8 h2) (az (cw oR) (az (by rw [dW,ow];exact tE oR) (au ?_ ih)));show(KH p i (dx p.tasks)[i] != KH p i (dx p.tasks)[i])=false;simp
end
theorem aI7{l:dy}(h:l.Nodup)(n:Nat):l.count n=if n∈l then 1 else 0:=by
 by_cases hm:n∈l
 ·rw [if_pos hm];have h1:=List.nodup_iff_count.1 h n;have h2:=adE.2 hm;omega
 ·rw [if_neg hm,List.count_eq_zero.2 hm]
theorem aof{p:PG}(hp:p.Ok)(hE:pD)(h:MP p)(hb:∀t∈p.tasks,bw t.body<=1000):yn p:=by
 obtain⟨_,_,_,h4,h5⟩:=Oz h.hd;refine⟨hp,?_,λt ht=>mr.sh _ (h.all t ht)⟩;have:∀l:List TK,(∀t∈l,bw t.body<=1000)->(l.map λt=>bw t.body).sum <=l.length*1000:=λl=>by
  induction l with
  |nil=>intro _;simp
  |cons x l ih=>
   intro h;have:=ih λt ht=>h t (jV _ ht);have:=h x (ji ..);rw [my,wO,mh];omega
 have:=this _ hb;simp only [md];omega
theorem aKJ{p:PG}(h:MP p):p.bW.length<=32:=by
 have:=h.hd;unfold vJ at this;cases a: !yi p.bq<;>rw [a]at this
 ·cases b:decide (p.gv<4)<;>rw [b]at this
  ·cases c:decide (64<p.gv)<;>rw [c]at this
   ·cases d:decide (ln (p.tasks.map cA)<1)<;>rw [d]at this
    ·cases e:decide (32<ln (p.tasks.map cA))<;>rw [e]at this
     ·simp only [bM,iy,ui,c9]at this;omega
     ·cases this
    ·cases this
   ·cases this
  ·cases this
 ·cases this
theorem aNh{p:PG}(jA:∀t∈p.tasks,mr p t.body)(h0:0<p.tasks.length)(hf:mM p=(0,fs)):∀x∈fs.flatMap tN,GP p fs x:=λx hx=>by
 obtain⟨f,B3,hx⟩:=ov.1 hx;obtain⟨i,hi,rfl⟩:=yV B3;exact aL7 jA h0 hf i hi x hx
theorem aNp{x:PT}(hx:x∈fs.flatMap tN):x.ns.length<=(fs.flatMap uG).length :=by
 obtain⟨f,B3,hx⟩:=ov.1 hx;have h1:∀(l:List PT),x∈l->x.ns.length<=(l.flatMap PT.ns).length :=λl h=>aqT;have h2:∀(l:List FN),f∈l->(uG f).length <=(l.flatMap uG).length :=λl h=>aqT;exact pz (h1 _ hx) (h2 _ B3)
theorem aOQ(fs:List FN):(fs.flatMap tN).flatMap PT.ns=fs.flatMap uG:=by
 induction fs with
 |nil=>rfl
 |cons f fs ih=>rw [lz,adC,ih,lz];rfl
theorem aoH{p:PG}(m:MP p)(h0:0<p.tasks.length)(hf:mM p=(0,fs)):(∀t∈p.tasks,gY t.body)/\NE p:=by
 obtain⟨hlen,_⟩:=UF h0 hf;have e0:B.dH p.tasks 0=p.tasks[0]:=by unfold B.dH;simp [List.getD,h0]
 have k0:gY p.tasks[0].body :=by
  have ha:=m.all _ (cY h0);refine aon _ 0 λx hx=>anJ (dec:=Classical.propDecidable _) λhk=> ?_;unfold mM at hf;dsimp only at hf;rw [e0]at hf;cases a:(nL false (p.tasks[0].body,0)).bd <;>rw [a]at hf
  ·simp only [bM]at hf;cases b: !((nL false (p.tasks[0].body,0)).st.all λx=>jq false x.1)<;>rw [b]at hf
   ·simp only [bM]at hf;cases c: !jq true (nL false (p.tasks[0].body,0)).e.1 <;>rw [c]at hf
    ·obtain⟨c1,_,c3⟩:=OA (Q:=QK) (q:=false) (r:=false) (λx h k=>k (by unfold NK;omega)) (λy hy h=>VU hy h) (bw p.tasks[0].body) ⟨(p.tasks[0].body,0),[],false,false⟩ ha a (λy hy=>mP.1 ((iS _).mp b) y hy);exact VU c1 ((iS _).mp c) x (c3 x hx hk) hk
    ·injection hf with h _;cases h
   ·injection hf with h _;cases h
  ·injection hf with h _;cases h
 have key:∀i (h:i<p.tasks.length),gY p.tasks[i].body /\p.tasks[i].aJ =[]:=λi h=>by
  cases i with
  |zero=>exact⟨k0,by have:=m.e0;rw [show C.dH p.tasks 0=p.tasks[0]from e0]at this;exact this⟩
  |succ i=>
   obtain⟨_,_,ht,tf⟩:=Oq m.all h0 hf i (by omega);have a:=tf.nk;have b:=tf.ne;rw [ht]at a b;exact⟨aon _ _ a,b⟩
 exact⟨λt ht=>by obtain⟨i,h,rfl⟩:=yV ht;exact(key i h).1,λt ht=>by obtain⟨i,h,rfl⟩:=yV ht;exact(key i h).2⟩
theorem aNs{p:PG}(hp:p.Ok)(hE:pD)(hb:∀t∈p.tasks,bw t.body<=eo)(hW:Ev NW [] (0,[c5])):Ev aak [aG p] (0,[c5]):=by
 obtain⟨b,hM,hv⟩:=avv hp hE;refine bj aCr ?_;rw [wa];refine ae (aNA hp hb) ?_;cases hl:XT p with
 |true=>exact bh (ae hW aD)
 |false=>
  refine bm ?_;have uR:p.tasks.length<=40/\∀t∈p.tasks,bw t.body<=1000:=by
   unfold XT at hl;cases a:decide (40<p.tasks.length)<;>rw [a]at hl
   ·cases c:decide (300<p.bq.length)<;>rw [c]at hl
    ·simp only [bM]at hl;refine⟨by simpa using a,λt ht=> ?_⟩;have:=zY.1 hl t ht;exact uj
    ·cases hl
   ·cases hl
  obtain⟨hT,hn⟩:=uR;have asK:b=true->yn p/\0<p.tasks.length/\((mM p).2.flatMap tY).length <=md:=λYc=>by
   have m:=hv Yc;obtain⟨_,_,_,h4,h5⟩:=Oz m.hd;refine⟨aof hp hE m hn,by omega,?_⟩;have hfp:∀f∈(mM p).2,f.p.bW.length<=32:=λf hf=>by
    by_cases h0:(mM p).1 =0
    ·obtain⟨i,hi,rfl⟩:=yV hf;obtain⟨_,_,_,tf⟩:=Oq (fs:=(mM p).2) (m.all) (by omega) (Prod.ext h0 rfl) i hi;rw [tf.fp];exact aKJ m
    ·rw [aoe h0]at hf;cases hf
   have h7:=anV (n:=32) _ hfp;have h8:=aod p;simp only [md];omega
  obtain⟨hC,hPa⟩:=aZU hM asK;refine ae hC (ae hPa ?_)
  by_cases he:(D1 p b).1 =0
  ·cases Yc:b with
   |false=>rw [Yc]at he;cases he
   |true=>
   subst Yc;have m:=hv rfl;obtain⟨hf,h0,hml⟩:=asK rfl;obtain⟨_,_,_,h4,h5⟩:=Oz m.hd;have jA:=m.all;have tt:(mM p).1 =0:=he;obtain⟨fs,fe⟩:∃fs,mM p=(0,fs):=⟨_,Prod.ext tt rfl⟩;have er:D1 p true=(0,fs):=fe;rw [fe]at hml;rw [er];obtain⟨hlen,_⟩:=UF h0 fe;have h1:=aMy fe;have hN:(dx p.tasks).length <=40000:=by
    have:=afi hn p.tasks.length (gQ _);rw [UL p (gQ _)]at this;omega
   have uP:=aKl jA h0 fe;have kM:=λn=>aMV jA h0 fe (n:=n);have bI:∀n∈fs.flatMap uG,n<(dx p.tasks).length :=λn hn=>by
    obtain⟨_,s,hs,_⟩:=(kM n).1 hn;exact(dX.1 hs).1
   have hSl:(fs.flatMap uG).length <=(dx p.tasks).length :=by
    have:=uP.length_le_of_subset (l₂:=List.range (dx p.tasks).length) λn hn=>xJ.2 (bI n hn);exact uj
   have j62:bY R6 [iI 0,iI 0,mg (fs.map lO)] (0,[mg (fs.map lO)]):=by
    refine bX ai6 (bm (au ?_ aD));rw [c9];have:((fs.length:Int)==0)=false:=by rw [Ul];omega
    exact iV
   refine ae j62 (bh (bm ?_));have aPg:=aZ0 hp (iv) (m.ref (aoH m h0 fe).1 (aoH m h0 fe).2);refine ae aPg ?_;have lnA:ln ((dx p.tasks).map encS)=((dx p.tasks).length :Int):=c9 _ _;have lnT:aU (ln (p.tasks.map cA)+1)=((p.tasks.length+1:Nat):Int):=by rw [c9,mi (by omega) (by omega)];omega
   refine az ?_ (az ?_ ?_)
   ·show(decide ((0:Int)<=ln ((dx p.tasks).map encS))&&decide (ln ((dx p.tasks).map encS)<=ln ((dx p.tasks).map encS))&&decide (ln ((dx p.tasks).map encS)*8<=140737488355328))=true;rw [lnA];simp only [bA,iT];omega
   ·show(decide ((0:Int)<=aU (ln (p.tasks.map cA)+1))&&decide (aU (ln (p.tasks.map cA)+1)<=aU (ln (p.tasks.map cA)+1))&&decide (aU (ln (p.tasks.map cA)+1)*8<=140737488355328))=true;rw [lnT];simp only [bA,iT];omega
   refine ae (o:=(0,[aG p,aw (ints (fst p))])) ?_ ?_
   ·have:=aZF hp hn hT;rw [<-aNP]at this;show bY RN [aG p,aw (List.replicate (aU (ln (p.tasks.map cA)+1)).toNat ([iI 0]:Row))] _;rw [lnT,ow];exact iK
   have z:List.replicate (dx p.tasks).length ([iI 0]:Row)=ints (List.replicate (dx p.tasks).length 0):=by simp [ints]
   have HR:=aYh hlen hT hN (P:=fs.flatMap tN) (λx hx=>⟨aNh jA h0 fe x hx,by have:=aNp hx;simp only [mx];omega⟩) (by rw [aoF,dW]at hml;simp only [md,mx]at hml⊢;omega) (List.replicate (dx p.tasks).length 0) (by simp);rw [aOQ]at HR;have asC:bY RM [mg (fs.map lO),lP ((fs.flatMap tN).map nH),iH (dx p.tasks),aw (ints (List.replicate (dx p.tasks).length 0)),aw (ints (fst p))]
    (0,[mg (fs.map lO),lP ((fs.flatMap tN).map nH),iH (dx p.tasks),aw (ints ((fs.flatMap uG).foldl bump (List.replicate (dx p.tasks).length 0))),aw (ints (fst p))]):=
    bX azg (ae HR.diag (bm aD))
   refine ae (o:=(0,[mg (fs.map lO),lP ((fs.flatMap tN).map nH),iH (dx p.tasks),aw (ints ((fs.flatMap uG).foldl bump (List.replicate (dx p.tasks).length 0))),aw (ints (fst p))])) ?_ (bh ?_)
   ·rw [<-z]at asC;show bY RM [mg (fs.map lO),lP ((fs.flatMap tN).map nH),iH (dx p.tasks),aw (List.replicate (ln ((dx p.tasks).map encS)).toNat ([iI 0]:Row)),aw (ints (fst p))] _;rw [lnA,ow];exact asC
   have afV:=aO1 (p:=p) (by omega) (G9) ((fs.flatMap uG).foldl bump (List.replicate (dx p.tasks).length 0)) (by rw [acJ];simp) λn rA=>by
    rw [amN _ _ _ (by simpa using rA) (λm hm=>by simpa using bI m hm) (λm=>by
     have:(List.replicate (dx p.tasks).length (0:Int)).getD m 0=0:=apC;rw [this];omega)]
    have z0:(List.replicate (dx p.tasks).length (0:Int)).getD n 0=0:=apC;rw [z0,aI7 uP];unfold KH kb
    by_cases hc:fM p 1<=n
    ·rw [tE hc,bT];have e1:n∈fs.flatMap uG ↔ ((dx p.tasks)[n].f.kind =15∨(dx p.tasks)[n].f.kind =20):=by
      rw [kM];constructor
      ·rintro⟨_,s,hs,hk⟩;rw [c8 rA]at hs;injection hs with hs;rw [hs];exact hk
      ·intro hk;exact⟨hc,_,c8 rA,hk⟩
     cases Iu:(dx p.tasks)[n].f.kind ==20 with
     |true=>rw [if_pos (e1.2 (.inr (eq_of_beq Iu)))];rfl
     |false=>
      cases AB:(dx p.tasks)[n].f.kind ==15 with
      |true=>rw [if_pos (e1.2 (.inl (eq_of_beq AB)))];rfl
      |false=>
       rw [if_neg λh=> ?_];rfl;rcases e1.1 h with h|h
       ·rw [h]at AB;cases AB
       ·rw [h]at Iu;cases Iu
    ·rw [yT hc,bM,if_neg λh=>hc ((kM n).1 h).1];rfl
   refine ae (afV.diag) (bm (ae hW aD))
  ·have her:(D1 p b).2 =[]:=by
    cases b with
    |false=>rfl
    |true=>exact aoe he
   rw [her];have fv:((D1 p b).1 != 0)=true:=CK;generalize (D1 p b).1 =e at fv;have j62:bY R6 [iI e,iI e,mg []] (0,[mg []]):=by
    refine bX ai6 (au (by simp) (au ?_ aD));rw [fv];rfl
   exact ae j62 (bh (aV fv (bh (ae hW aD))))
end
end Go.Proofs.B.C
namespace Go.ah
def Bj{p:Prop}(h:p:=by exact⟨l,h1,by omega,h3⟩):p:=h
def aqV{p:Prop}(h:p:=by
 cases a<;>simp only [js,oW]at h
 have e:=eq_of_beq h;subst e;exact⟨_,rfl⟩):p:=h
end Go.ah
namespace Go.Proofs.B.C
open Go Go.ah
section
variable{a x:AV}{t:Nat}{row:Row}{xs:aE}
def wf_u8{v:Int}(h:(Lit.int .u8 v).wf =true):0<=v/\v<=255:=by
 simp only [Lit.wf,IntKind.min,IntKind.max,IntKind.signed,IntKind.bits,bA,iT,oW,sj]at h;omega
def gF{k:Kind}{ks:fh}(h:dq (k::ks) row=true):∃a r,row=a::r/\js k a=true/\dq ks r=true:=by
 match row,h with
 | [],h=>exact G3
 |a::r,h=>
  simp only [dq,bA]at h;exact⟨a,r,rfl,h.1,h.2⟩
def nV{k:IntKind}(h:js (.int k) a=true):∃n,a= .int k n:=aqV
def Kj(h:js .bool a=true):∃n,a= .bool n:=by
 cases a<;>simp only [js,oW]at h
 exact⟨_,rfl⟩
def qS{t:TypeId}(h:js (.slice t) a=true):∃n,a= .aj t n:=aqV
def Ch:∀{a b:fh} {row:Row},dq (a++b) row=true->∃r s,row=r++s/\dq a r=true/\dq b s=true
 | [],_,row,h=>⟨[],row,rfl,rfl,h⟩
 |k::a,b,row,h=>by
  obtain⟨x,r,rfl,h1,h2⟩:=gF h;obtain⟨r1,r2,rfl,h3,h4⟩:=Ch h2;exact⟨x::r1,r2,rfl,by simp [dq,h1,h3],h4⟩
def xH(h:dq [] row=true):row=[]:=by cases row<;>simp_all [dq]
def lift{α:Type}{enc:α->Row}{P:α->Prop}:∀{xs:aE},(∀r∈xs,∃a,r=enc a/\P a)->∃l:List α,xs=l.map enc/\l.length=xs.length/\∀a∈l,P a
 | [],_=>⟨[],rfl,rfl,λa h=>aM⟩
 |r::rs,h=>by
  obtain⟨a,rfl,h1⟩:=h r (by simp);obtain⟨l,rfl,h2,h3⟩:=lift (xs:=rs) λr hr=>h r (by simp [hr]);exact⟨a::l,rfl,by simp,λy hy=>by
   rcases iz.1 hy with rfl|hy
   ·exact h1
   ·exact h3 y hy⟩
structure Dc(t:Nat)(xs:aE):Prop where
 i:t=tI->∃l:cj,xs=ints l/\l.length<=mx
 e:t=NH->∃l,xs=l.map aH/\Dx l
 p:t=xw->∃l,xs=l.map dc/\Qh l
 s:t=Ta->∃l:List CS,xs=l.map encS/\l.length<=mx/\∀x∈l,x.Ok
 d:t=Cf->∃l:List CD,xs=l.map eu/\l.length<=mx/\∀x∈l,x.d.Ok/\x.u.Ok
 h:t=Eb->∃l:List CH,xs=l.map dj/\l.length<=mx/\∀x∈l,x.B7/\x.body.Ok
 a:t=Eh->∃l:List CA,xs=l.map fa/\l.length<=mx/\∀x∈l,x.B7/\x.body.Ok/\x.after.Ok
 o:t=acs->∃l:List OB,xs=l.map iX/\l.length<=mx/\∀x∈l,x.Ok
 n:t=abO->∃l:List EN,xs=l.map nM/\l.length<=mx/\∀x∈l,x.Ok
 k:t=Eg->∃l:List TK,xs=l.map cA/\l.length<=mx/\∀x∈l,x.Ok
 q:t=JU->∃l:List PR,xs=l.map il/\l.length<=mx/\∀x∈l,x.Ok
def Hi(row:Row):Prop:=∀y∈row,Wf CX.K y/\∀t xs,y= .aj t xs->Dc t xs
def Hi.l{r s:Row}(h:Hi (r++s)):Hi r:=λy hy=>h y (by simp [hy])
def Hi.r{r s:Row}(h:Hi (r++s)):Hi s:=λy hy=>h y (by simp [hy])
def Hi.at(h:Hi row)(hm:AV.aj t xs∈row):Dc t xs:=(h _ hm).2 _ _ rfl
abbrev rY:fh:=[.int .u8,.int .i64,.int .i64,.int .i64,.int .i64,.int .i64,.bool,.bool,.bool,.bool,.bool,.int .u8,.slice 74,.slice 74,.slice 110,.slice 110,.slice 3,.slice 61,.slice 81,.slice 78,.slice 134]
abbrev LM:fh:=[.int .u8,.int .u8,.int .i64,.int .i64,.int .i64,.int .i64,.int .i64,.int .i64,.slice 74]
abbrev kdP:fh:=[.int .u8,.int .i64,.int .i64,.int .i64,.slice 74]
abbrev QC:fh:=[.int .i64,.int .i64,.int .i64,.bool,.slice 3]
abbrev kdN:fh:=[.slice 3,.slice 3]
abbrev kdQ:fh:=[.int .i64,.slice 3,.slice 74]
abbrev kdG:fh:=[.slice 84,.int .i64,.slice 63,.slice 104]
def au6(h:dq LM row=true)(hi:Hi row):∃s:CE,row=aH s/\s.Ok:=by
 obtain⟨x0,r0,rfl,q0,g0⟩:=gF h;obtain⟨x0,rfl⟩:=nV q0;obtain⟨x1,r1,rfl,q1,g1⟩:=gF g0;obtain⟨x1,rfl⟩:=nV q1;obtain⟨x2,r2,rfl,q2,g2⟩:=gF g1;obtain⟨x2,rfl⟩:=nV q2;obtain⟨x3,r3,rfl,q3,g3⟩:=gF g2;obtain⟨x3,rfl⟩:=nV q3;obtain⟨x4,r4,rfl,q4,g4⟩:=gF g3;obtain⟨x4,rfl⟩:=nV q4;obtain⟨x5,r5,rfl,q5,g5⟩:=gF g4;obtain⟨x5,rfl⟩:=nV q5;obtain⟨x6,r6,rfl,q6,g6⟩:=gF g5;obtain⟨x6,rfl⟩:=nV q6;obtain⟨x7,r7,rfl,q7,g7⟩:=gF g6;obtain⟨x7,rfl⟩:=nV q7;obtain⟨x8,r8,rfl,q8,g8⟩:=gF g7;obtain⟨x8,rfl⟩:=qS q8;obtain rfl:=xH g8;obtain⟨l8,rfl,b8⟩:=(hi.at (t:=74) (xs:=x8) (by simp)).e rfl;exact⟨.mk x0 x1 x2 x3 x4 x5 x6 x7 l8,(Kk (.mk x0 x1 x2 x3 x4 x5 x6 x7 l8)).symm,.mk _ b8.1 b8.2⟩
def aXM(h:dq kdP row=true)(hi:Hi row):∃s:PL,row=dc s/\s.Ok:=by
 obtain⟨x0,r0,rfl,q0,g0⟩:=gF h;obtain⟨x0,rfl⟩:=nV q0;obtain⟨x1,r1,rfl,q1,g1⟩:=gF g0;obtain⟨x1,rfl⟩:=nV q1;obtain⟨x2,r2,rfl,q2,g2⟩:=gF g1;obtain⟨x2,rfl⟩:=nV q2;obtain⟨x3,r3,rfl,q3,g3⟩:=gF g2;obtain⟨x3,rfl⟩:=nV q3;obtain⟨x4,r4,rfl,q4,g4⟩:=gF g3;obtain⟨x4,rfl⟩:=qS q4;obtain rfl:=xH g4;obtain⟨l4,rfl,b4⟩:=(hi.at (t:=74) (xs:=x4) (by simp)).e rfl;exact⟨⟨x0,x1,x2,x3,l4⟩,rfl,b4⟩
def aXN(h:dq QC row=true)(hi:Hi row):∃s:OB,row=iX s/\s.Ok:=by
 obtain⟨x0,r0,rfl,q0,g0⟩:=gF h;obtain⟨x0,rfl⟩:=nV q0;obtain⟨x1,r1,rfl,q1,g1⟩:=gF g0;obtain⟨x1,rfl⟩:=nV q1;obtain⟨x2,r2,rfl,q2,g2⟩:=gF g1;obtain⟨x2,rfl⟩:=nV q2;obtain⟨x3,r3,rfl,q3,g3⟩:=gF g2;obtain⟨x3,rfl⟩:=Kj q3;obtain⟨x4,r4,rfl,q4,g4⟩:=gF g3;obtain⟨x4,rfl⟩:=qS q4;obtain rfl:=xH g4;obtain⟨l4,rfl,b4⟩:=(hi.at (t:=3) (xs:=x4) (by simp)).i rfl;exact⟨⟨x0,x1,x2,x3,l4⟩,rfl,b4⟩
def aXO(h:dq kdN row=true)(hi:Hi row):∃s:EN,row=nM s/\s.Ok:=by
 obtain⟨x0,r0,rfl,q0,g0⟩:=gF h;obtain⟨x0,rfl⟩:=qS q0;obtain⟨x1,r1,rfl,q1,g1⟩:=gF g0;obtain⟨x1,rfl⟩:=qS q1;obtain rfl:=xH g1;obtain⟨l0,rfl,b0⟩:=(hi.at (t:=3) (xs:=x0) (by simp)).i rfl;obtain⟨l1,rfl,b1⟩:=(hi.at (t:=3) (xs:=x1) (by simp)).i rfl;exact⟨⟨l0,l1⟩,rfl,b0,b1⟩
def aXL(h:dq kdQ row=true)(hi:Hi row):∃s:PR,row=il s/\s.Ok:=by
 obtain⟨x0,r0,rfl,q0,g0⟩:=gF h;obtain⟨x0,rfl⟩:=nV q0;obtain⟨x1,r1,rfl,q1,g1⟩:=gF g0;obtain⟨x1,rfl⟩:=qS q1;obtain⟨x2,r2,rfl,q2,g2⟩:=gF g1;obtain⟨x2,rfl⟩:=qS q2;obtain rfl:=xH g2;obtain⟨l1,rfl,b1⟩:=(hi.at (t:=3) (xs:=x1) (by simp)).i rfl;obtain⟨l2,rfl,b2⟩:=(hi.at (t:=74) (xs:=x2) (by simp)).e rfl;exact⟨⟨x0,l1,l2⟩,rfl,b1,b2⟩
def HJ(h:dq rY row=true)(hi:Hi row):∃s:CS,row=encS s/\s.Ok:=by
 obtain⟨x0,r0,rfl,q0,g0⟩:=gF h;obtain⟨x0,rfl⟩:=nV q0;obtain⟨x1,r1,rfl,q1,g1⟩:=gF g0;obtain⟨x1,rfl⟩:=nV q1;obtain⟨x2,r2,rfl,q2,g2⟩:=gF g1;obtain⟨x2,rfl⟩:=nV q2;obtain⟨x3,r3,rfl,q3,g3⟩:=gF g2;obtain⟨x3,rfl⟩:=nV q3;obtain⟨x4,r4,rfl,q4,g4⟩:=gF g3;obtain⟨x4,rfl⟩:=nV q4;obtain⟨x5,r5,rfl,q5,g5⟩:=gF g4;obtain⟨x5,rfl⟩:=nV q5;obtain⟨x6,r6,rfl,q6,g6⟩:=gF g5;obtain⟨x6,rfl⟩:=Kj q6;obtain⟨x7,r7,rfl,q7,g7⟩:=gF g6;obtain⟨x7,rfl⟩:=Kj q7;obtain⟨x8,r8,rfl,q8,g8⟩:=gF g7;obtain⟨x8,rfl⟩:=Kj q8;obtain⟨x9,r9,rfl,q9,g9⟩:=gF g8;obtain⟨x9,rfl⟩:=Kj q9;obtain⟨x10,eZ,rfl,uK,g10⟩:=gF g9;obtain⟨x10,rfl⟩:=Kj uK;obtain⟨Qk,gD,rfl,yu,g11⟩:=gF g10;obtain⟨Qk,rfl⟩:=nV yu;obtain⟨x12,gz,rfl,uJ,g12⟩:=gF g11;obtain⟨x12,rfl⟩:=qS uJ;obtain⟨x13,gy,rfl,Aw,g13⟩:=gF g12;obtain⟨x13,rfl⟩:=qS Aw;obtain⟨x14,gZ,rfl,Av,g14⟩:=gF g13;obtain⟨x14,rfl⟩:=qS Av;obtain⟨x15,FJ,rfl,yt,g15⟩:=gF g14;obtain⟨x15,rfl⟩:=qS yt;obtain⟨x16,FI,rfl,Ig,g16⟩:=gF g15;obtain⟨x16,rfl⟩:=qS Ig;obtain⟨x17,FH,rfl,Au,g17⟩:=gF g16;obtain⟨x17,rfl⟩:=qS Au;obtain⟨x18,FG,rfl,Qr,g18⟩:=gF g17;obtain⟨x18,rfl⟩:=qS Qr;obtain⟨x19,FE,rfl,Ie,g19⟩:=gF g18;obtain⟨x19,rfl⟩:=qS Ie;obtain⟨x20,FC,rfl,q20,g20⟩:=gF g19;obtain⟨x20,rfl⟩:=qS q20;obtain rfl:=xH g20;obtain⟨l12,rfl,b12⟩:=(hi.at (t:=74) (xs:=x12) (by simp)).e rfl;obtain⟨l13,rfl,b13⟩:=(hi.at (t:=74) (xs:=x13) (by simp)).e rfl;obtain⟨l14,rfl,b14⟩:=(hi.at (t:=110) (xs:=x14) (by simp)).p rfl;obtain⟨l15,rfl,b15⟩:=(hi.at (t:=110) (xs:=x15) (by simp)).p rfl;obtain⟨l16,rfl,b16⟩:=(hi.at (t:=3) (xs:=x16) (by simp)).i rfl;obtain⟨l17,rfl,b17⟩:=(hi.at (t:=61) (xs:=x17) (by simp)).s rfl;obtain⟨l18,rfl,b18⟩:=(hi.at (t:=81) (xs:=x18) (by simp)).d rfl;obtain⟨XU,rfl,b19⟩:=(hi.at (t:=78) (xs:=x19) (by simp)).h rfl;obtain⟨l20,rfl,Yu⟩:=(hi.at (t:=134) (xs:=x20) (by simp)).a rfl;have hm:0<=Qk:=by
  have:=(hi (.int .u8 Qk) (by simp)).1;cases this with
  |int _ _ h=>exact(wf_u8 h).1
 refine⟨.mk ⟨x0,x1,x2,x3,x4,x5,x6,x7,x8,x9,x10,Qk,l12,l13,l14,l15,l16⟩ l17 l18 XU l20,(OG (.mk ⟨x0,x1,x2,x3,x4,x5,x6,x7,x8,x9,x10,Qk,l12,l13,l14,l15,l16⟩ l17 l18 XU l20)).symm,.mk _ ⟨b12,b13,b14,b15,b16,hm⟩ b17.1 b18.1 b19.1 Yu.1 (λx hx=>(b19.2 x hx).1) (λx hx=>(Yu.2 x hx).1) λy hy=> ?_⟩;simp only [CS.kids,nA,ov,wL,CS.L,CS.D,CS.H,CS.A,iz,GO,GN]at hy;rcases hy with⟨x,hx,h|h⟩|h|⟨x,hx,rfl⟩|⟨x,hx,h|h⟩
 ·rw [h];exact(b18.2 x hx).1
 ·rw [h];exact(b18.2 x hx).2
 ·exact b17.2 y h
 ·exact(b19.2 x hx).2
 ·rw [h];exact(Yu.2 x hx).2.1
 ·rw [h];exact(Yu.2 x hx).2.2
def aXR(h:dq (rY++rY) row=true)(hi:Hi row):∃s:CD,row=eu s/\s.d.Ok/\s.u.Ok:=by
 obtain⟨r,t,rfl,h1,h2⟩:=Ch h;obtain⟨a,rfl,ha⟩:=HJ h1 hi.l;obtain⟨b,rfl,hb⟩:=HJ h2 hi.r;exact⟨.mk a b,rfl,ha,hb⟩
def aXQ(h:dq ([.slice 3]++rY) row=true)(hi:Hi row):∃s:CH,row=dj s/\s.B7/\s.body.Ok:=by
 obtain⟨r,t,rfl,h1,h2⟩:=Ch h;obtain⟨a,rfl,ha⟩:=HJ h2 hi.r;obtain⟨x,r,rfl,q,g⟩:=gF h1;obtain⟨x,rfl⟩:=qS q;obtain rfl:=xH g;obtain⟨l,rfl,b⟩:=(hi.at (t:=3) (xs:=x) (by simp)).i rfl;exact⟨.mk l a,rfl,⟨b⟩,ha⟩
def aXS(h:dq ([.int .u8]++(LM++([.int .i64,.slice 74]++(rY++rY)))) row=true)(hi:Hi row):∃s:CA,row=fa s/\s.B7/\s.body.Ok/\s.after.Ok:=by
 obtain⟨r1,t1,rfl,h1,h⟩:=Ch h;obtain⟨r2,t2,rfl,h2,h⟩:=Ch h;obtain⟨r3,t3,rfl,h3,h⟩:=Ch h;obtain⟨r4,t4,rfl,h4,h5⟩:=Ch h;obtain⟨g,rfl,hg⟩:=au6 h2 hi.r.l;obtain⟨a,rfl,ha⟩:=HJ h4 hi.r.r.r.l;obtain⟨b,rfl,hb⟩:=HJ h5 hi.r.r.r.r;obtain⟨x,r,rfl,q,g1⟩:=gF h1;obtain⟨x,rfl⟩:=nV q;obtain rfl:=xH g1;obtain⟨n,r,rfl,q,g3⟩:=gF h3;obtain⟨n,rfl⟩:=nV q;obtain⟨y,r,rfl,q,g3⟩:=gF g3;obtain⟨y,rfl⟩:=qS q;obtain rfl:=xH g3;obtain⟨l,rfl,b2⟩:=(hi.at (t:=74) (xs:=y) (by simp)).e rfl;exact⟨.mk x g n l a b,rfl,⟨hg,b2⟩,ha,hb⟩
def aXK(h:dq ([.int .i64,.slice 140]++(rY++[.int .i64])) row=true)(hi:Hi row):∃s:TK,row=cA s/\s.Ok:=by
 obtain⟨r1,t1,rfl,h1,h⟩:=Ch h;obtain⟨r2,t2,rfl,h2,h3⟩:=Ch h;obtain⟨a,rfl,ha⟩:=HJ h2 hi.r.l;obtain⟨x,r,rfl,q,g1⟩:=gF h1;obtain⟨x,rfl⟩:=nV q;obtain⟨y,r,rfl,q,g1⟩:=gF g1;obtain⟨y,rfl⟩:=qS q;obtain rfl:=xH g1;obtain⟨z,r,rfl,q,g3⟩:=gF h3;obtain⟨z,rfl⟩:=nV q;obtain rfl:=xH g3;obtain⟨l,rfl,b2⟩:=(hi.at (t:=140) (xs:=y) (by simp)).n rfl;exact⟨⟨x,l,a,z⟩,rfl,b2.1,b2.2,ha⟩
def aXP(h:dq [.int .i64] row=true):∃n:Int,row=[iI n]/\True:=by
 obtain⟨z,r,rfl,q,g3⟩:=gF h;obtain⟨z,rfl⟩:=nV q;obtain rfl:=xH g3;exact⟨z,rfl,trivial⟩
def K3:CX.K 3=[.int .i64]:=jy
def K74:CX.K 74=LM:=jy
def awv:CX.K 110=kdP:=jy
def K61:CX.K 61=rY:=jy
def K81:CX.K 81=rY++rY:=jy
def K78:CX.K 78=[.slice 3]++rY:=jy
def awu:CX.K 134=[.int .u8]++(LM++([.int .i64,.slice 74]++(rY++rY))):=jy
def K84:CX.K 84=QC:=jy
def awt:CX.K 140=kdN:=jy
def K63:CX.K 63=[.int .i64,.slice 140]++(rY++[.int .i64]):=jy
def aww:CX.K 104=kdQ:=jy
def an2:∀{xs:aE},(∀r∈xs,1<=mb r)->xs.length<=tj xs
 | [],_=>qR _
 |r::rs,h=>by
  have:=h r (by simp);have:=an2 (xs:=rs) λr hr=>h r (by simp [hr]);simp only [tj,mh];omega
def an1:∀{xs:aE} {r:Row},r∈xs->mb r<=tj xs
 |x::xs,r,h=>by
  simp only [tj];rcases iz.1 h with rfl|h
  ·omega
  ·have:=an1 h;omega
def adQ:∀{xs:Row} {r:AV},r∈xs->BV r<=mb xs
 |x::xs,r,h=>by
  simp only [mb];rcases iz.1 h with rfl|h
  ·omega
  ·have:=adQ h;omega
def aZK(hk:∀row∈xs,dq (CX.K t) row=true)(hl:∀row∈xs,1<=row.length->True)(hn:tj xs<=mx)(hi:∀row∈xs,Hi row):Dc t xs:=by
 have len:∀{k:Kind} {ks:fh},CX.K t=k::ks->xs.length<=mx:=λ{k ks} e=>pz (an2 λr hr=>by
  have:=lQ (hk r hr);rw [e]at this;have:=an3 r;simp at*;omega) hn
 refine⟨?_,?_,?_,?_,?_,?_,?_,?_,?_,?_,?_⟩
 ·rintro rfl;have hk:∀row∈xs,dq ([.int .i64]) row=true:=λr hr=>by rw [<-K3];exact hk r hr
  have hlen:=len (K3);obtain⟨l,h1,h2,h3⟩:=lift (enc:=λn:Int=>[iI n]) λr hr=>aXP (hk r hr);exact⟨l,h1,by omega⟩
 ·rintro rfl;have hk:∀row∈xs,dq (LM) row=true:=λr hr=>by rw [<-K74];exact hk r hr
  have hlen:=len (K74);obtain⟨l,h1,h2,h3⟩:=lift λr hr=>au6 (hk r hr) (hi r hr);exact Bj
 ·rintro rfl;have hk:∀row∈xs,dq (kdP) row=true:=λr hr=>by rw [<-awv];exact hk r hr
  have hlen:=len (awv);obtain⟨l,h1,h2,h3⟩:=lift λr hr=>aXM (hk r hr) (hi r hr);exact Bj
 ·rintro rfl;have hk:∀row∈xs,dq (rY) row=true:=λr hr=>by rw [<-K61];exact hk r hr
  have hlen:=len (K61);obtain⟨l,h1,h2,h3⟩:=lift λr hr=>HJ (hk r hr) (hi r hr);exact Bj
 ·rintro rfl;have hk:∀row∈xs,dq (rY++rY) row=true:=λr hr=>by rw [<-K81];exact hk r hr
  have hlen:=len (K81);obtain⟨l,h1,h2,h3⟩:=lift λr hr=>aXR (hk r hr) (hi r hr);exact Bj
 ·rintro rfl;have hk:∀row∈xs,dq ([.slice 3]++rY) row=true:=λr hr=>by rw [<-K78];exact hk r hr
  have hlen:=len (K78);obtain⟨l,h1,h2,h3⟩:=lift λr hr=>aXQ (hk r hr) (hi r hr);exact Bj
 ·rintro rfl;have hk:∀row∈xs,dq ([.int .u8]++(LM++([.int .i64,.slice 74]++(rY++rY)))) row=true:=λr hr=>by rw [<-awu];exact hk r hr
  have hlen:=len (awu);obtain⟨l,h1,h2,h3⟩:=lift λr hr=>aXS (hk r hr) (hi r hr);exact Bj
 ·rintro rfl;have hk:∀row∈xs,dq (QC) row=true:=λr hr=>by rw [<-K84];exact hk r hr
  have hlen:=len (K84);obtain⟨l,h1,h2,h3⟩:=lift λr hr=>aXN (hk r hr) (hi r hr);exact Bj
 ·rintro rfl;have hk:∀row∈xs,dq (kdN) row=true:=λr hr=>by rw [<-awt];exact hk r hr
  have hlen:=len (awt);obtain⟨l,h1,h2,h3⟩:=lift λr hr=>aXO (hk r hr) (hi r hr);exact Bj
 ·rintro rfl;have hk:∀row∈xs,dq ([.int .i64,.slice 140]++(rY++[.int .i64])) row=true:=λr hr=>by rw [<-K63];exact hk r hr
  have hlen:=len (K63);obtain⟨l,h1,h2,h3⟩:=lift λr hr=>aXK (hk r hr) (hi r hr);exact Bj
 ·rintro rfl;have hk:∀row∈xs,dq (kdQ) row=true:=λr hr=>by rw [<-aww];exact hk r hr
  have hlen:=len (aww);obtain⟨l,h1,h2,h3⟩:=lift λr hr=>aXL (hk r hr) (hi r hr);exact Bj
def dec(h:Wf CX.K x):BV x<=mx->∀t xs,x= .aj t xs->Dc t xs:=by
 induction h with
 |int|bool|str=>exact λ_ _ _ h=>aM
 |aj t xs hl hk hw ih=>
  rintro hn _ _ ⟨⟩;simp only [BV]at hn;exact aZK hk (λ_ _ _=>trivial) (by omega) λrow hr y hy=>⟨hw row hr y hy,ih row hr y hy (by have:=an1 hr;have:=adQ hy;omega)⟩
def aIy(h:agc CX 37 x)(hn:LJ x<=mx):∃p:PG,x=aG p/\p.Ok:=by
 have ha:(CX.ti 37).u.agg =true:=jy;have nz:(CX.ti 37).ks =kdG:=jy;rcases h with⟨_,row,rfl,h2,h3⟩|⟨h1,_⟩
 ·rw [nz]at h2;have hn:mb row<=mx:=hn;have hi:Hi row:=λy hy=>⟨h3 y hy,dec (h3 y hy) (by have:=adQ hy;omega)⟩;rename_i hx;clear hx nz;have h:=h2;obtain⟨x0,r0,rfl,q0,g0⟩:=gF h;obtain⟨x0,rfl⟩:=qS q0;obtain⟨x1,r1,rfl,q1,g1⟩:=gF g0;obtain⟨x1,rfl⟩:=nV q1;obtain⟨x2,r2,rfl,q2,g2⟩:=gF g1;obtain⟨x2,rfl⟩:=qS q2;obtain⟨x3,r3,rfl,q3,g3⟩:=gF g2;obtain⟨x3,rfl⟩:=qS q3;obtain rfl:=xH g3;obtain⟨l0,rfl,b0⟩:=(hi.at (t:=84) (xs:=x0) (by simp)).o rfl;obtain⟨l2,rfl,b2⟩:=(hi.at (t:=63) (xs:=x2) (by simp)).k rfl;obtain⟨l3,rfl,b3⟩:=(hi.at (t:=104) (xs:=x3) (by simp)).q rfl;exact⟨⟨l0,x1,l2,l3⟩,rfl,b0.1,b0.2,b2.1,b2.2,b3.1,b3.2⟩
 ·rw [ha]at h1;cases h1
mutual
theorem HO:∀s:CS,(jm s).length <=mb (encS s)
 | .mk f l d h a=>by
   have h1:=arS l;have h2:=arU d;have h3:=arT h;have h4:=arV a;simp only [jm,encS,fX,mb,BV,mh,fI];omega
theorem arS:∀s:List CS,(yb s).length <=tj (K1 s)
 | []=>gQ _
 |s::ss=>by
  have h1:=HO s;have h2:=arS ss;simp only [yb,K1,tj,fI];omega
theorem arU:∀s:List CD,(Hn s).length <=tj (K5 s)
 | []=>gQ _
 |s::ss=>by
  have h1:=aYx s;have h2:=arU ss;simp only [Hn,K5,tj,fI];omega
theorem aYx:∀s:CD,(PU s).length <=mb (eu s)
 | .mk d u=>by
   have h1:=HO d;have h2:=HO u;simp only [PU,eu,JW,fI];omega
theorem arT:∀s:List CH,(Hm s).length <=tj (K4 s)
 | []=>gQ _
 |s::ss=>by
  have h1:=aYv s;have h2:=arT ss;simp only [Hm,K4,tj,fI];omega
theorem aYv:∀s:CH,(PS s).length <=mb (dj s)
 | .mk e b=>by
   have h1:=HO b;simp only [PS,dj,mb];omega
theorem arV:∀s:List CA,(Ho s).length <=tj (K6 s)
 | []=>gQ _
 |s::ss=>by
  have h1:=aYy s;have h2:=arV ss;simp only [Ho,K6,tj,fI];omega
theorem aYy:∀s:CA,(PV s).length <=mb (fa s)
 | .mk k g n e b a=>by
   have h1:=HO b;have h2:=HO a;simp only [PV,fa,mb,JW,fI];omega
end
def avn:∀l:List TK,(dx l).length <=tj (l.map cA)
 | []=>gQ _
 |t::l=>by
  have h1:=HO t.body;have h2:=avn l;simp only [dx,my,tj,cA,mb,JW,fI];omega
def aYw(p:PG):(dx p.tasks).length <=LJ (aG p):=by
 have:=avn p.tasks;show _<=mb (jB p);simp only [jB,mb,BV];omega
end
end Go.Proofs.B.C
namespace Go.Proofs.B
open Go Go.ah
noncomputable def Is (v:Nat) (l:aq):List (Nat×aq×UO)->Option UO
 | []=>none
 |e::t=>match Nat.beq v e.1&&y6 KI e.2.1 l with|true=>some e.2.2|false=>Is v l t
noncomputable def FK (M:Nat) (t:List (Nat×aq×UO)):Nat->Nat->aq->Option UO
 |0=>FU CX EE M
 |n+1=>λv l=>match Is v l t with|some r=>some r|none=>bG CX EE (FK M t n) (M+n) v l
def gY:List (Nat×aq×UO)->Prop
 | []=>True
 |e::t=>Ev e.1 e.2.1 e.2.2/\gY t
def ard:∀{t:List (Nat×aq×UO)},gY t->∃B,∀N,B<=N->∀v l r,Is v l t=some r->FU CX EE N v l=some r
 | [],_=>⟨0,λ_ _ _ _ _ h=>aM⟩
 |e::t,h=>by
  obtain⟨B,hB⟩:=h.1;obtain⟨C,hC⟩:=ard h.2;refine⟨B+C,λN hN v l r hr=> ?_⟩;simp only [Is]at hr;split at hr
  ·rename_i hb;rw [bA]at hb;injection hr with hr;rw [fk hb.1,<-Em adk hb.2,<-hr];exact hB N N (by omega) (by omega)
  ·exact hC N (by omega) v l r hr
def as3{t:List (Nat×aq×UO)}{M:Nat}(h:∀N,M<=N->∀v l r,Is v l t=some r->FU CX EE N v l=some r):∀n,FK M t n=FU CX EE (M+n)
 |0=>rfl
 |n+1=>by
  funext v l
  show(match Is v l t with|some r=>some r|none=>bG CX EE (FK M t n) (M+n) v l)=_;rw [as3 h n];cases hk:Is v l t with
  |none=>rfl
  |some r=>exact(h (M+(n+1)) (by omega) v l r hk).symm
def kn(t:List (Nat×aq×UO))(n:Nat){v:Nat}{l:aq}{r:UO}(ht:gY t)(h:∀M,FK M t n v l=some r):Ev v l r:=by
 obtain⟨B,hB⟩:=ard ht;refine⟨B+n,λN _ h1 _=> ?_⟩;obtain⟨M,rfl⟩:∃M,N=M+n:=⟨N- n,by omega⟩;show FU CX EE (M+n) v l=some r;rw [<-as3 (λN hN=>hB N (by omega)) n];exact h M
end Go.Proofs.B
namespace Go.Proofs.B.X
open Go Go.ah C
set_option maxRecDepth 1000000
abbrev xS(k o q:Int)(u:Bool)(E:List CE)(To:List PL)(Ts:cj)(L:List CS)(D:List CD):CS:= .mk ⟨k,0,o,0,q,0,false,false,u,false,false,0,E,[],To,[],Ts⟩ L D [] []
abbrev xN(n:Int):CE:= .mk 1 0 n 0 0 0 0 0 []
abbrev xO:CE:= .mk 2 0 0 1 0 0 0 0 []
abbrev O6:=xS 1 0 0 false [] [] [] [] []
abbrev PB(o:Int)(e:CE):=xS 2 0 0 false [e] [⟨1,o,0,0,[]⟩] [] [] []
abbrev UQ(ts:cj)(D:List CD)(s:CS):=xS 9 0 0 false [] [] ts [s] D
abbrev x1:=xS 15 0 0 true [xO] [] [] [] []
abbrev x2:=xS 20 0 0 false [] [] [] [PB 0 (xN 3)] []
abbrev x3:=PB 1 (.mk 9 0 0 0 0 0 0 2147483647 [.mk 5 1 0 0 0 0 0 0 [xO,xN 20]])
abbrev x4:=PB 1 (xN 11)
abbrev x5:=xS 15 0 0 false [xN 1] [] [] [] []
abbrev xB:=[x1,x2,x3]
abbrev aP5(l:List CS):=xS 3 0 0 false [] [] [] l []
abbrev xWh(l:List CS):=xS 5 0 0 false [xN 1] [] [] [aP5 l] []
abbrev xD:List CD:=[.mk (PB 1 (xN 10)) O6]
abbrev xT(l:List CS):=UQ [] xD (xWh l)
abbrev xP(prio dead:Int)(l:List CS):PG:=⟨[⟨1,0,9,false,[]⟩,⟨1,0,2147483647,false,[]⟩],4,[⟨0,[],UQ [1] [] O6,0⟩,⟨prio,[],xT l,dead⟩],[⟨5,[0],[]⟩]⟩
abbrev xW(t:Int)(rq d:Int):WH:=⟨t,[],[],[],[],[],false,false,false,rq,d⟩
abbrev xK(cn:aE):aq:=[ay [[iI 0,iI (-1),iI (-1)],[iI (-1),iI (-1),iI (-1)]],.aj 0 cn]
abbrev xC:aE:=[[iI 1,iI 1]]
abbrev xQ(p:PG)(w:WH)(s:CS)(lf QA:Int)(c:aE):Nat×aq×UO:=⟨nS,[aa (aZ 0 w),aa (encS s),K0 p lf]++xK c,(0,[c5,aa (ep 1 2 p QA)]++xK xC)⟩
abbrev KQ(e:Nat×aq×UO):Prop:=Ev e.1 e.2.1 e.2.2
section
variable (a b:Int) (l:List CS)
abbrev xL(a b:Int)(l:List CS)(s:CS)(lf QA:Int):=xQ (xP a b l) (xW 1 (-1) 3) s lf QA xC
theorem q1:KQ (xL a b l x1 8185 8184):=kn [] 30 trivial λM=>jy
theorem q2:KQ (xL a b l x2 8184 8182):=kn [] 30 trivial λM=>jy
theorem q3:KQ (xL a b l x3 8182 8181):=kn [] 30 trivial λM=>jy
theorem q4:KQ (xL a b l x4 8185 8184):=kn [] 30 trivial λM=>jy
theorem q5:KQ (xL a b l x5 8181 8180):=kn [] 30 trivial λM=>jy
theorem q6:KQ (xL a b l x1 8184 8183):=kn [] 30 trivial λM=>jy
theorem q7:KQ (xL a b l x2 8183 8181):=kn [] 30 trivial λM=>jy
theorem q8:KQ (xL a b l x3 8181 8180):=kn [] 30 trivial λM=>jy
theorem q9:KQ (xQ (xP a b l) (xW 0 (-1) 0) (UQ [1] [] O6) 8192 8190 []):=kn [] 30 trivial λM=>jy
end
abbrev BO:=x4::xB
abbrev Ft:=[x1,x2,x3,x5]
abbrev xR(a b:Int)(l:List CS)(QA:Int):=xQ (xP a b l) (xW 1 (-1) 0) (xT l) 8190 QA xC
abbrev tB(a b:Int)(l:List CS):=[xL a b l x1 8185 8184,xL a b l x2 8184 8182,xL a b l x3 8182 8181]
def O9(a b:Int)(l:List CS):gY (tB a b l):=⟨q1 a b l,q2 a b l,q3 a b l,trivial⟩
def r1:KQ (xR 4 0 xB 8181):=kn (tB 4 0 xB) 30 (O9 _ _ _) λM=>jy
def r2:KQ (xR 4 21 xB 8181):=kn (tB 4 21 xB) 30 (O9 _ _ _) λM=>jy
def r3:KQ (xR 6 0 xB 8181):=kn (tB 6 0 xB) 30 (O9 _ _ _) λM=>jy
def r4:KQ (xR 0 0 xB 8181):=kn (tB 0 0 xB) 30 (O9 _ _ _) λM=>jy
def r5:KQ (xR 4 0 BO 8180):=kn [xL 4 0 BO x4 8185 8184,xL 4 0 BO x1 8184 8183,xL 4 0 BO x2 8183 8181,xL 4 0 BO x3 8181 8180] 30 ⟨q4 _ _ _,q6 _ _ _,q7 _ _ _,q8 _ _ _,trivial⟩ λM=>jy
def r6:KQ (xR 4 0 Ft 8180):=kn (xL 4 0 Ft x5 8181 8180::tB 4 0 Ft) 30 ⟨q5 _ _ _,O9 _ _ _⟩ λM=>jy
abbrev xM(a b:Int)(l:List CS):Nat×aq×UO:=⟨xA,[aa (jB (xP a b l))],(0,[c5])⟩
abbrev t0(a b:Int)(l:List CS)(n:Int):=[xQ (xP a b l) (xW 0 (-1) 0) (UQ [1] [] O6) 8192 8190 [],xR a b l n]
def m1:KQ (xM 4 0 xB):=kn (t0 4 0 xB 8181) 40 ⟨q9 _ _ _,r1,trivial⟩ λM=>jy
def m2:KQ (xM 4 21 xB):=kn (t0 4 21 xB 8181) 40 ⟨q9 _ _ _,r2,trivial⟩ λM=>jy
def m3:KQ (xM 6 0 xB):=kn (t0 6 0 xB 8181) 40 ⟨q9 _ _ _,r3,trivial⟩ λM=>jy
def m4:KQ (xM 0 0 xB):=kn (t0 0 0 xB 8181) 40 ⟨q9 _ _ _,r4,trivial⟩ λM=>jy
def m5:KQ (xM 4 0 BO):=kn (t0 4 0 BO 8180) 40 ⟨q9 _ _ _,r5,trivial⟩ λM=>jy
def m6:KQ (xM 4 0 Ft):=kn (t0 4 0 Ft 8180) 40 ⟨q9 _ _ _,r6,trivial⟩ λM=>jy
end Go.Proofs.B.X
namespace Go.ah
def G7{p:Prop}(h:p:=by show 0<2;decide):p:=h
end Go.ah
namespace Go.Proofs.B.X
open Go Go.ah C
set_option maxRecDepth 1000000
section
variable{e:CE}{k o:Int}{α:Type}{P:α->Prop}
theorem mf:∀x∈([]:List α),P x:=λ_ h=>aM
theorem al{a:α}{l:List α}(h:P a)(t:∀x∈l,P x):∀x∈a::l,P x:=List.forall_mem_cons.2 ⟨h,t⟩
theorem CP{q:Int}{u:Bool}{E:List CE}{To:List PL}{Ts:cj}{L:List CS}{D:List CD}(hE:Dx E)(hT:Qh To)(h3:Ts.length<=mx)(hl:L.length<=mx)(hd:D.length<=mx)(h1:∀x∈L,x.Ok)(h2:∀x∈D,x.d.Ok/\x.u.Ok):(xS k o q u E To Ts L D).Ok :=
 .mk _ ⟨hE,⟨qR _,mf⟩,hT,⟨qR _,mf⟩,h3,vR _⟩ hl hd (qR _) (qR _) mf mf λy hy=>by
 simp only [CS.kids,CS.D,CS.L,CS.H,CS.A,T2,Uw,yW,nA,ov,iz,GO,GN]at hy;rcases hy with⟨x,hx,rfl|rfl⟩|hy
 ·exact(h2 x hx).1
 ·exact(h2 x hx).2
 ·exact h1 y hy
theorem lE{n:Nat}(h:Nat.ble n mx=true):n<=mx:=yR h
theorem e0{p n f g x y:Int}:(CE.mk k p n o f g x y []).Ok := .mk _ (qR _) mf
theorem IP:Dx []:=⟨qR _,mf⟩
theorem Yo(h:e.Ok):Dx [e]:=⟨lE rfl,al h mf⟩
theorem FL:Qh []:=⟨qR _,mf⟩
theorem VP(o:Int)(h:e.Ok):(PB o e).Ok :=CP (Yo h) ⟨lE rfl,al IP mf⟩ (lE rfl) (lE rfl) (lE rfl) mf mf
theorem aor:O6.Ok:=CP IP FL (lE rfl) (lE rfl) (lE rfl) mf mf
theorem z1:x1.Ok:=CP (Yo e0) FL (lE rfl) (lE rfl) (lE rfl) mf mf
theorem z2:x2.Ok:=CP IP FL (lE rfl) (lE rfl) (lE rfl) (al (VP _ e0) mf) mf
theorem z3:x3.Ok:=VP _ (.mk _ (lE rfl) (al (.mk _ (lE rfl) (al e0 (al e0 mf))) mf))
theorem z5:x5.Ok:=CP (Yo e0) FL (lE rfl) (lE rfl) (lE rfl) mf mf
theorem zB:∀x∈xB,x.Ok:=al z1 (al z2 (al z3 mf))
theorem zB4:∀x∈BO,x.Ok:=al (VP _ e0) zB
theorem zB5:∀x∈Ft,x.Ok:=al z1 (al z2 (al z3 (al z5 mf)))
section
variable {a b:Int} {l:List CS} (h:∀x∈l,x.Ok) (hl:l.length<=mx)
include h hl
theorem zP:(xP a b l).Ok :=
 ⟨lE rfl,al (qR _) (al (qR _) mf),lE rfl,
   al ⟨qR _,mf,CP IP FL (lE rfl) (lE rfl) (lE rfl) (al aor mf) mf⟩
    (al ⟨qR _,mf,CP IP FL (lE rfl) (lE rfl) (lE rfl) (al (CP (Yo e0) FL (lE rfl) (lE rfl) (lE rfl) (al (CP IP FL (lE rfl) hl (lE rfl) h mf) mf) mf) mf) (al ⟨VP _ e0,aor⟩ mf)⟩ mf),
   lE rfl,al ⟨lE rfl,IP⟩ mf⟩
theorem zF(m:KQ (xM a b l))(hn:(xP a b l).tasks.all (λt=>Nat.ble (bw t.body) 1000)=true):yn (xP a b l):=by
 obtain⟨c,h1,h2⟩:=avv (zP h hl (a:=a) (b:=b)) af2;have e:=E.uniq h1 m;cases c with
 |false=>cases e
 |true=>exact aof (zP h hl) af2 (h2 rfl) λt ht=>yR (mP.1 hn t ht)
end
theorem fB{a b:Int}(m:KQ (xM a b xB)):yn (xP a b xB):=zF zB (lE rfl) m rfl
abbrev xE(a b:Int)(l:List CS)(e:Int):Nat×aq×UO:=⟨aci,[aa (jB (xP a b l)),iI e],(0,[c5])⟩
theorem f2:KQ (xE 4 21 xB 370):=O3 (fB m2) (G7) m2 370 (jy)
theorem f3:KQ (xE 6 0 xB 371):=O3 (fB m3) (G7) m3 371 (jy)
theorem f4:KQ (xE 0 0 xB 370):=O3 (fB m4) (G7) m4 370 (jy)
theorem f5:KQ (xE 4 0 BO 370):=O3 (zF zB4 (lE rfl) m5 rfl) (G7) m5 370 (jy)
theorem f6:KQ (xE 4 0 Ft 370):=O3 (zF zB5 (lE rfl) m6 rfl) (G7) m6 370 (jy)
abbrev xG(f:Nat)(t:TypeId)(r:aE):Nat×aq×UO:=⟨f,[aa (jB (xP 4 0 xB))],(0,[iI 0,.aj t r])⟩
abbrev g1:=xG JC zU [[iI 1,iI 4,iI 20,iI 20,iI 10,iI 0,cF [[iI 0,iI 0]]]]
abbrev g2:=xG JB Gx [[iI 1,iI (-1),aw [[iI 7]]],[iI 1,iI 0,aw [[iI 8]]]]
theorem f1:(mM (xP 4 0 xB)).1 =0/\(mM (xP 4 0 xB)).2.map lO=[[iI 1,iI 4,iI 20,iI 20,iI 10,iI 0,cF [[iI 0,iI 0]]]]/\(mM (xP 4 0 xB)).2.flatMap tY=[[iI 1,iI (-1),aw [[iI 7]]],[iI 1,iI 0,aw [[iI 8]]]]:=⟨jy,jy,jy⟩
theorem c1:KQ g1:=by
 have h:=aff (fB m1) (G7) m1;rw [f1.1,f1.2.1]at h;exact h
theorem c2:KQ g2:=by
 have h:=aed (fB m1) (G7) m1 (by rw [f1.2.2];decide);rw [f1.1,f1.2.2]at h;exact h
theorem aMZ:Ev NW [] (0,[c5]):=kn [g1,g2,xE 4 21 xB 370,xE 6 0 xB 371,xE 0 0 xB 370,xE 4 0 BO 370,xE 4 0 Ft 370] 40 ⟨c1,c2,f2,f3,f4,f5,f6,trivial⟩ λM=>jy
end
end Go.Proofs.B.X
